/- ItemLatest, one part of the proof. -/
import Derived.Test.YtdioggbficfibaaGreatDoorP07
set_option linter.all false
set_option maxRecDepth 100000
set_option maxHeartbeats 16000000
namespace Go.bh
open Go Go.Proofs.Tryz Go.Proofs Go.RowKit Go.da
def gF(l:List Int):List Value:=l.map fun x=>.int .i64 x
theorem If(l:List Int):(gF l).length=l.length:=by simp[gF]
theorem Ig(l:List Int):∀u∈gF l,u.oneCell'=true:=fun u hu=>by
 obtain⟨x,_,rfl⟩:=nv.1 hu;rfl
theorem aso(a b:List Int):gF (a++b)=gF a++gF b:=by simp[gF]
theorem Mg(w:World)(base:Nat)(e:TypeId)(size:Nat)(A:base<=w.heap.size):(w.alloc (.cells #[] e)).ownsRow base e size (.slice (some ⟨w,0,none⟩) 0 0) 0 []:=
 ⟨ao,.inr ⟨w.heap.size,0,#[],rfl,A,cW _ _,aZ _,dx _,ao,ao⟩⟩
variable{w:World}
theorem aq3{base:Nat}{v:Value}{n:Nat}{l:List Int}(h:w.ownsRow base 3 1 v n (gF l))(b:l.length=n)(ae:v≠ .slice none 0 0):∃g cap,v=.slice (some ⟨g,0,none⟩) l cap/\lu w (some ⟨g,0,none⟩) l/\l.length<=cap/\base<=g:=by
 obtain⟨g,cap,f,aj,c,a,d,j,e⟩:=ul h ae;subst b;refine⟨g,cap,aj,fun _=>⟨g,0,rfl,c8 a,fun i hi=>?_⟩,d,c⟩;have:=e i z;rw[gF,n4,jU hi]at this;simp only[gP];exact ly a this
theorem U_{w:World}{pb po:Nat}{p:List Int}(h:∀i (hi:i<p.length),w.cell? ⟨pb,po+i,none⟩=some (.int .i64 p[i]))(k n:Nat):∀(j:Nat) u,(gF ((p.drop k).take n))[j]? =some u->w.cell? (Addr.add ⟨pb,po+k,none⟩ j)=some u:=fun j u hu=>by
 rw[gF,n4]at hu
 obtain⟨x,a,rfl⟩:=iz.1 hu
 rw[oZ]at a
 split at a
 ·rw[LO]at a
  obtain⟨hi,rfl⟩:=k2.1 a
  have:=h (k+j) hi
  rw[←kN]at this
  unfold Addr.add
  split
  ·rename_i ae;subst ae;rw[h7]at this;exact this
  ·exact this
 ·cases a
section
variable {S:cU} {M:Nat->Nat} {rs:List bA} {ca bd:Option Addr} {cc aW rb aE rc:Nat} {w:World}
def avv(base:Nat)(rs:List bA)(p:List Int)(e:Ending)(w':World):Prop:=∃(k x m:Nat) (b:x<rs.length),p[k]? =some (x:Int)/\gm rs [rs[x].h] (p.drop k)=some m/\∃va a,e=.returned (.slice va (p.take k++ -1::p.drop (k+m)).length a)/\lu w' va (p.take k++ -1::p.drop (k+m))/\∀x,va=some x->base<=x.block
theorem apJ(h:pB S M rs ca bd cc aW rb aE rc w)(aG:Option Addr)(a n:Nat)(p:List Int)(ag:lu w aG p)(f:pF rs M S.al n p)(kt:p.length<=a)(OK:a<=9223372036854775807)(fI:Int): χ 114 #[.agg (eg S rs ca bd cc aW rb aE rc),.slice aG p.length a,.int .i64 fI] w (avv w rs p):=by
 have dK:p.length<=5:=by rw[f.len];exact cO f.le (h.yS _).2
 have P:0<p.length:=by rw[f.len];exact f.pos
 have mX:=G (fun W=>acJ fI p.length W P z);have eH:=G (aea (.string S.nm) (.int .i64 S.db) (.slice ca S.bw.length cc) (.slice bd S.aD.length aW) (.int .i64 S.al) rs rb aE rc aG a p w h.r ag h.iD h.rq (cO dK ak));have b:=hX.ee w (eg S rs ca bd cc aW rb aE rc);have ip:=G f.sub;have F:=G (fun W (o:β w W)=>ag.K o);have ls:=G (fun W (o:β w W)=>h.r.K o);have z0:((p.length:Int)==0)=false:=by rw[lp];omega
 clear h ag f;go_enter func114,ntmps114;go_upto_region 4 with(go_at_call 194;refine(mX.out _).mono ?_;rintro e am ⟨⟨k,Y,rfl⟩,rfl⟩)
 obtain⟨x,s,T',m,c,ax⟩:=ip.out k Y;have Ch:=NY rs _ _ _ c;rw[qN]at Ch;obtain⟨pb,po,rfl,kW,om⟩:=F.out _ b.b P;have D:=om k Y;rw[(k2.1 T').2]at D;obtain⟨ur,Lb,H,iw,kE⟩:=ls.out _ b.b;cases H;obtain⟨aR,ac,ab⟩:=kE x s;have fo:=ab.bo;have mP:(0:Int)<=(k:Int):=z;have lF:(k:Int)<p.length:=z;have oS:(0:Int)<=(x:Int):=z;have Cu:(x:Int)<rs.length:=z;have Z:=G (fun W (o:β w W)=>eH.out p.length k rs[x].h m W (afm _ _) c o);obtain⟨cQ,aX,ba,bx,dt,B⟩:=f_ b.g;have au:=G c;clear om kE eH mX c;have aq:=F.out;clear F ls
 go_region_held3 (fun X=>X.cell? ⟨w,0,none⟩=some (.string S.nm)/\X.cell? ⟨w,1,none⟩=some (.int .i64 S.db)/\X.cell? ⟨w,2,none⟩=some (.slice ca S.bw.length cc)/\X.cell? ⟨w,3,none⟩=some (.slice bd S.aD.length aW)/\X.cell? ⟨w,4,none⟩=some (.slice (some ⟨rb,aE,none⟩) rs.length rc)/\X.cell? ⟨w,5,none⟩=some (.int .i64 S.al)/\X.cell? ⟨pb,po+k,none⟩=some (.int .i64 x)/\X.cell? ⟨rb,aE+x*4,none⟩=some (.int .i64 rs[x].h)) (first|exact⟨cQ,aX,ba,bx,dt,B,D,fo⟩|exact⟨u0,u1,u2,u3,u4,u5,u6,u7⟩|go_keep) (first|(go_at_call 195;refine(Z.out _ (by first|exact b.b.drew|exact b.b)).mono ?_;rintro e A ⟨rfl,bu⟩;have y:=((br (w.alloc (.cells (eg S rs ca bd cc aW rb aE rc) 29)).heap.size (w.alloc (.cells (eg S rs ca bd cc aW rb aE rc) 29))).drew).trans bu;have L:=b.K y;obtain⟨u0,u1,u2,u3,u4,u5⟩:=f_ L.g;have u6:A.cell? ⟨pb,po+k,none⟩=some (.int .i64 x):=(by rw[y.cell kW];exact D);have u7:A.cell? ⟨rb,aE+x*4,none⟩=some (.int .i64 rs[x].h):=(by rw[y.cell iw];exact fo)));clear cQ aX ba bx dt B u0 u1 u2 u3 u4 u5 u6 u7 fo D Z ab b bu y;have q:=L.b;have c:=au.out;clear L;obtain⟨R,Q,N,J,K⟩:=im Ek;have en:(0:Int)<=(k:Int)+(m:Int):=z;have b4:(k:Int)+(m:Int)<=(p.length:Int):=z;have dF:(p.length:Int)<=(a:Int):=z;have gL:(k:Int)<=(a:Int):=z;have sS:∀X,β w X->∀i (hi:i<p.length),X.cell? ⟨pb,po+i,none⟩=some (.int .i64 p[i]):=fun X d=>by obtain⟨c6,kH,H,_,ai⟩:=aq X d P;cases H;exact ai
 have jH:=G sS;have Mr:Hid (∀X,β w X->∀(j:Nat) u,(gF (p.take k))[j]? =some u->X.cell? (Addr.add ⟨pb,po,none⟩ j)=some u):=G fun X d j u hu=>by
  have:=U_ (jH.out X d) 0 k j u (by rw[LM];exact hu)
  rwa [h7]at this
 have aa:Hid (∀X,β w X->∀(j:Nat) u,(gF (p.drop (k+m)))[j]? =some u->X.cell? (Addr.add ⟨pb,po+(k+m),none⟩ j)=some u):=G fun X d j u hu=>U_ (jH.out X d) (k+m) (p.length-(k+m)) j u (by rw[uK (by rw[qN];omega)];exact hu);have bZ:(gF (p.take k)).length=k*1:=by rw[If,nu];omega
 have ix:(gF (p.drop (k+m))).length=(p.length-(k+m))*1:=by rw[If,qN];omega
 have x4:=Mg A w 3 1 q.size;have l:=q.alloc q.size (.cells #[] 3);go_upto_region 6 with(at_builtin;refine ln _ rfl _ _ 22 rfl w 3 R _ 1 8 oY Q N J K rfl ak (.slice (some ⟨A,0,none⟩) 0 0) 0 [] rfl x4 ⟨pb,po,none⟩ k a (gF (p.take k)) rfl bZ (Mr.out _ l) (Ig _) (by unfold maxLen;omega) z l.size ?_;intro v5 a_ E U O7;rw[gP,zt]at E)
 have I:=l.grown U l.size (fun g an=>by simp[Value.ownBlock]at an;subst an;exact q.size);have T:v5≠ .slice none 0 0:=fun e=>by have:=(O7.1 e).1;simp at this
 obtain⟨B,Gc,ay,rfl,al,_⟩:=ul E T;have af:=E.alloc (.cells #[.int .i64 (-1)] 3);have r:=I.alloc I.size (.cells #[.int .i64 (-1)] 3);have ae:=rA (cs:=#[.int .i64 (-1)]) (t:=3) (fr:=(0,0)) (px a_ (.cells #[.int .i64 (-1)] 3));clear E U O7 T x4 l q;go_upto_region 7 with(at_builtin;refine ln _ rfl _ _ 22 rfl w 3 R _ 1 8 oY Q N J K rfl ak (.slice (some ⟨B,0,none⟩) k Gc) k _ rfl af ⟨a_,0,none⟩ 1 1 [.int .i64 (-1)] rfl rfl ae (by simp[Value.oneCell']) (by unfold maxLen;omega) z r.size ?_;intro g1 bi gi fT ah)
 have C:=r.grown fT r.size (fun g an=>by simp[Value.ownBlock]at an;subst an;exact al);have Pk:g1≠ .slice none 0 0:=fun e=>by have:=(ah.1 e).1;simp at this
 obtain⟨hf,z_,aw,rfl,OR,_⟩:=ul gi Pk;have s8:((k:Int)+(m:Int)).toNat=k+m:=z;clear fT ah Pk af r ae I;obtain⟨ad,av,Ob⟩:∃ad:Addr,(if a=k+m then some (⟨pb,po,none⟩:Addr)else some ⟨pb,po+(k+m),none⟩)=some ad/\∀X,β w X->∀(j:Nat) u,(gF (p.drop (k+m)))[j]? =some u->X.cell? (Addr.add ad j)=some u:=by
  by_cases V:a=k+m
  ·refine⟨_,co V,fun X d j u hu=>?_⟩;rw[Rk z]at hu;simp[gF]at hu
  ·exact⟨_,bs V,aa.out⟩
 have ao:=G Ob;clear Ob aa
 go_wp2_with (at_builtin;refine ln _ rfl _ _ 22 rfl w 3 R _ 1 8 oY Q N J K rfl ak (.slice (some ⟨hf,0,none⟩) (k+1) z_) (k+1) _ rfl gi ad (p.length-(k+m)) (a-(k+m)) (gF (p.drop (k+m))) rfl ix (ao.out _ C) (Ig _) (by unfold maxLen;omega) z C.size ?_;intro nr w7 O sV T8);go_ret;have fx:=C.grown sV C.size (fun g an=>by simp[Value.ownBlock]at an;subst an;exact OR);have G8:nr≠ .slice none 0 0:=fun e=>by have:=(T8.1 e).1;simp at this
 have aj:(p.take k++ -1::p.drop (k+m)).length=k+1+(p.length-(k+m)):=by rw[ia,l7,nu,qN];omega
 have O:w7.ownsRow w 3 1 nr (k+1+(p.length-(k+m))) (gF (p.take k++ -1::p.drop (k+m))):=by
  have e:gF (p.take k++ -1::p.drop (k+m))=gF (p.take k)++[.int .i64 (-1)]++gF (p.drop (k+m)):=by simp[gF]
  rw[e];exact O
 obtain⟨m8,BW,rfl,c0,_,jJ⟩:=aq3 O aj G8;exact⟨⟨k,x,m,s,T',c,_,_,rfl,c0,fun x s=>by cases s;exact jJ⟩,fx⟩
end
end Go.bh
namespace Go.bS
open Go Go.Proofs.Tryz Go.Proofs Go.RowKit Go.Lib Go.aJ
open Go.bh (gF)
theorem afM:(prog.info? 3).map (fun i=>(i.zero,i.size,i.bytes))=some (some (.int .i64 0),1,8):=av
def qj(B:Nat->Prop)(w:World)(a:Option Addr)(l:List Int):Prop:=l.length<=40/\(0<l.length->∃b o,a=some ⟨b,o,none⟩/\B b/\b<w.heap.size/\∀i (hi:i<l.length),w.cell? ⟨b,o+i,none⟩=some (.int .i64 l[i]))
variable{B:Nat->Prop}{w:World}{a:Option Addr}{l:List Int}
theorem qj.ex{w':World}(h:qj B w a l)(A:eQ B w w'):qj B w' a l:=
 ⟨h.1,fun ae=>by
  obtain⟨b,o,e,d,c,f⟩:=h.2 ae
  exact⟨b,o,e,d,iK c A.1,fun i hi=>(A.cell d c).trans (f i hi)⟩⟩
theorem qj.low{c:Nat->Prop}(d:∀b,B b->c b)(h:qj B w a l):qj c w a l:=
 ⟨h.1,fun ae=>by
  obtain⟨b,o,e,H,I⟩:=h.2 ae
  exact⟨b,o,e,d _ H,I⟩⟩
theorem qj.lt(h:qj B w a l):qj (fun b=>B b/\b<w.heap.size) w a l:=
 ⟨h.1,fun ae=>by
  obtain⟨b,o,e,H,I,c⟩:=h.2 ae
  exact⟨b,o,e,⟨H,I⟩,I,c⟩⟩
theorem aC1{w:World}{ad:Addr}{l:List Int}{b o:Nat}(e:ad=⟨b,o,none⟩)(c:∀i (hi:i<l.length),w.cell? ⟨b,o+i,none⟩=some (.int .i64 l[i])):∀j u,(gF l)[j]? =some u->w.cell? (ad.add j)=some u:=fun j u hu=>by
 subst e
 rw[Fl]
 rw[gF,n4]at hu
 by_cases a:j<l.length
 ·rw[jU a]at hu
  injection hu with hu
  subst hu
  exact c j a
 ·rw[uI z]at hu
  cases hu
theorem aC0{base:Nat}{g n cap:Nat}(f:l.length<=40)(h:w.ownsRow base 3 1 (.slice (some ⟨g,0,none⟩) n cap) n (gF l)):qj (fa base) w (some ⟨g,0,none⟩) l:=
 ⟨f,fun ae=>by
  have d:=h
  rcases h.2 with⟨b,i⟩|⟨m,o,k,aj,a,e,_⟩
  ·cases b
  ·injection aj with aj
   injection aj with aj
   injection aj with aj
   subst aj
   refine⟨_,0,rfl,a,bF e,fun j c=>?_⟩
   have:=d.cells (g:=g) rfl j (.int .i64 l[j]) (by simp[gF,c])
   rw[Fl]at this
   exact this⟩
def avF(base:Nat)(l:List ByteArray)(e:Ending)(w':World):Prop:=∃a c,e=.returned (.slice a l.length c)/\hc (fa base) w' a l
def avn(base:Nat)(l:List Int)(e:Ending)(w':World):Prop:=∃a c,e=.returned (.slice a l.length c)/\qj (fa base) w' a l
theorem axo(w:World)(a:Option Addr)(c:Nat)(l:List ByteArray)(h:hc aV w a l):χ 132 #[.slice a l c] w (avF w l):=by
 obtain⟨j,g,A,B,D⟩:=im amN;have F:∀(w:World) (a:Option Addr) (n c n' d:Nat),(binOp .eql 39 (.slice a n c) (.slice none n' d)).run prog w=.ok (.bool a.isNone) w:=fun w a n c n' d=>asP w _ _ a n c n' d It;by_cases ae:l=[]
 ·subst ae;simp only[uJ];rcases a with _|ad
  ·go_enter V8,ntmps132;exact anQ
  ·go_enter V8,ntmps132
   go_wp2_with (at_builtin;refine aeE rfl _ _ 39 rfl 9 j It g w 0 0 0 (aZ _) (some ad) c rfl rfl ?_);exact aoN
 ·have t:0<l.length:=by
   rcases l with _|⟨x,l⟩;exact absurd rfl ae;simp
  have r:=h.1;obtain⟨m,o,rfl,_,E,k⟩:=h.2 t;have s:=G (arZ (w:=w.alloc (.cells #[] 9)) (ad:=⟨m,o,none⟩) (l:=l) rfl fun i hi=>((e4 w _).cell E).trans (k i hi));have u:=Go.bh.N.xB w w 9 1 (aZ _);clear h k;go_enter V8,ntmps132
  go_wp2_with (at_builtin;refine ln _ rfl _ _ 39 rfl w 9 j _ 1 16 It g A B D rfl ak (.slice (some ⟨w,0,none⟩) 0 0) 0 [] rfl u ⟨m,o,none⟩ l c (A' l) rfl (by simp[A']) s.out (by simp[A',Value.oneCell']) (by unfold maxLen;omega) z ao ?_;intro J H b q f;rw[gP,zt]at b;obtain⟨I,K,rfl⟩:=Go.bh.N.Hu b (fun e=>by have:=(f.1 e).1;cases this);have y:=G (Go.bh.N.JY q);have C:=G (arY r b);clear b q f);go_ret;exact⟨⟨_,_,rfl,C.out⟩,y.out⟩
theorem axn(w:World)(a:Option Addr)(c:Nat)(l:List Int)(h:qj aV w a l):χ 51 #[.slice a l.length c] w (avn w l):=by
 obtain⟨j,g,A,B,D⟩:=im afM;have F:∀(w:World) (a:Option Addr) (n c n' d:Nat),(binOp .eql 22 (.slice a n c) (.slice none n' d)).run prog w=.ok (.bool a.isNone) w:=fun w a n c n' d=>asP w _ _ a n c n' d oY;by_cases ae:l=[]
 ·subst ae;simp only[uJ];rcases a with _|ad
  ·go_enter func51,ntmps51;exact anQ
  ·go_enter func51,ntmps51
   go_wp2_with (at_builtin;refine aeE rfl _ _ 22 rfl 3 j oY g w 0 0 0 (aZ _) (some ad) c rfl rfl ?_);exact aoN
 ·have t:0<l.length:=by
   rcases l with _|⟨x,l⟩
   ·exact absurd rfl ae
   ·simp
  have r:=h.1;obtain⟨m,o,rfl,_,E,k⟩:=h.2 t;have s:=G (aC1 (w:=w.alloc (.cells #[] 3)) (ad:=⟨m,o,none⟩) (l:=l) rfl fun i hi=>((e4 w _).cell E).trans (k i hi));have u:=Go.bh.N.xB w w 3 1 (aZ _);clear h k;go_enter func51,ntmps51
  go_wp2_with (at_builtin;refine ln _ rfl _ _ 22 rfl w 3 j _ 1 8 oY g A B D rfl ak (.slice (some ⟨w,0,none⟩) 0 0) 0 [] rfl u ⟨m,o,none⟩ l.length c (gF l) rfl (by simp[gF]) s.out (by simp[gF,Value.oneCell']) (by unfold maxLen;omega) z ao ?_;intro J H b q f;rw[gP,zt]at b;obtain⟨I,K,rfl⟩:=Go.bh.N.Hu b (fun e=>by have:=(f.1 e).1;cases this);have y:=G (Go.bh.N.JY q);have C:=G (aC0 r b);clear b q f);go_ret;exact⟨⟨_,_,rfl,C.out⟩,y.out⟩
theorem aDx(bo c1 c2 c3 c4 c5 fe x t y ca n cc A d i r B o C s u z j f g kq c k l m jX:Value)(c_ dj b a:Int)(w:World):χ 20 #[.agg #[bo,c_,c2,dj,c4,c5,fe,x,t,y,ca,n,cc,A,d,i],.agg #[r,b,o,a,s,u,z,j,f,g,kq,c,k,l,m,jX]] w fun e w'=>e=.returned (.bool (decide (a<dj∨dj=a/\b<c_))):=by
 have T:=G (lm w (.cells #[bo,c_,c2,dj,c4,c5,fe,x,t,y,ca,n,cc,A,d,i] 44 (0,0)) (.cells #[r,b,o,a,s,u,z,j,f,g,kq,c,k,l,m,jX] 44 (0,0)));go_enter func20,ntmps20;by_cases H:dj=a
 ·subst H
  go_wp2;go_ret;exact⟨ao,T.out.h⟩
 ·have q:(dj==a)=false:=by rw[lp];exact H
  go_wp2;go_ret;exact⟨by simp[H],T.out.h⟩
end Go.bS
namespace Go.bS
open Go Go.Proofs.Tryz Go.Proofs Go.RowKit Go.Lib Go.aJ
theorem U1(N S:Int)(w:World):χ 470 #[.agg #[N,S]] w fun e w'=>e=.returned (.agg (bM 2 bO N S 0 none 0 0 none 0 0)):=by
 go_enter func470,ntmps470
 go_wp2;refine jT (by simp[results,results470,go_sem];rfl) rfl ?_;exact⟨rfl,((br _ _).alloc (aZ _) _).alloc ao _⟩
theorem VL(s:ByteArray)(w:World):χ 469 #[s] w fun e w'=>e=.returned (.agg (bM 1 s 0 0 0 none 0 0 none 0 0)):=by
 go_enter func469,ntmps469
 go_wp2;refine jT (by simp[results,results469,go_sem];rfl) rfl ?_;exact PO
theorem axY(n:Int)(w:World):χ 471 #[n] w fun e w'=>e=.returned (.agg (bM 3 bO 0 0 n none 0 0 none 0 0)):=by
 go_enter func471,ntmps471
 go_wp2;refine jT (by simp[results,results471,go_sem];rfl) rfl ?_;exact PO
def avH(e:Ending):Prop:=∃n:Int,(n=0∨n=1)/\e=.returned (.agg (bM 4 bO 0 0 n none 0 0 none 0 0))
theorem asg(b:Bool)(w:World):χ 472 #[.bool b] w fun e w'=>avH e:=by
 cases b<;>
 ·go_enter func472,ntmps472
  go_wp2;refine jT (by simp[results,results472,go_sem];rfl) rfl ?_;exact⟨⟨_,ao,rfl⟩,(br _ _).alloc (aZ _) _⟩
theorem adk(N S:Int)(w:World):χ 525 #[.agg #[N,S],.bool true] w fun e w'=>e=.returned (.tuple #[.agg (bM 2 bO N S 0 none 0 0 none 0 0),.int .i64 0]):=by
 have c:=G fun w=>U1 N S w;have T:=lm w (.cells #[N,S] 38 (0,0)) (.cells (bM 0 bO 0 0 0 none 0 0 none 0 0) 42 (0,0));go_enter func525,ntmps525
 go_wp2_with (go_at_call 470;(with_reducible refine(c.out _).mono ?_);rintro e d ⟨rfl,b⟩;have a:=T.K b;obtain⟨l,g,i,n,o,s,t⟩:=eX a.q;obtain⟨z0,f,j,z3,z4,z5,m⟩:=he a.q);refine ki a.q ?_;exact⟨rfl,iJ a.h z _ _ _ _ _ _ _⟩
def ahu(l:List ByteArray)(s:ByteArray)(e:Ending):Prop:=∃r:Int,e=.returned (.int .i64 r)/\((∃(k:Nat) (a:k<l.length),r=k/\l[k]=s)∨(r= -1/\s∉l))
theorem axz(w:World)(a:Option Addr)(c:Nat)(l:List ByteArray)(s:ByteArray)(h:hc aV w a l): Calls prog 187 #[.slice a l c,s] w fun e w'=>ahu l s e/\w=w':=by
 have d:=h.1;have aw:=G h.2;clear h;go_enter func187,ntmps187;exact an1
theorem M7(w:World)(a:Option Addr)(c:Nat)(l:List ByteArray)(s:ByteArray)(h:hc aV w a l)(r:Bool)(d:r=true↔s∈l): Calls prog 473 #[s,.slice a l c] w fun e w'=>e=.returned (.bool r)/\w=w':=by
 have C:=G (axz w a c l s h);go_enter func473,ntmps473
 go_wp2_with (go_at_call 187;(with_reducible refine(C.out).mono ?_);rintro e g ⟨⟨x,rfl,b⟩,rfl⟩);go_ret;refine⟨?_,rfl⟩;rcases b with⟨k,f,rfl,b⟩|⟨rfl,b⟩
 have:s∈l:=b▸fP f;rw[d.2 this];simp
 ·have:r=false:=by
   cases r with
   |false=>rfl
   |true=>exact absurd (d.1 rfl) b
  rw[this];simp
def atq(l:List (ByteArray×Nat))(s:ByteArray)(e:Ending):Prop:=∃(k:Nat) (a:k<l.length),e=.returned (.int .i64 k)/\l[k].1=s
theorem axu(w:World)(a:Option Addr)(c:Nat)(l:List (ByteArray×Nat))(s:ByteArray)(h:Go.da.jd w a l)(B:l.length<=8)(n:∃x∈l,x.1=s): Calls prog 185 #[.slice a l.length c,s] w fun e w'=>atq l s e/\w=w':=by
 obtain⟨b,o,arr,bb,rfl,A,m⟩:=h;have y:Hid (∀k (g:k<l.length),w.cell? ⟨b,o+k*2,none⟩=some (.string l[k].1)):=G fun k g=>by simp[World.cell?,A,(m k g).1]
 have E:b<w.heap.size:=(g6.1 A).1;have u:=G n;clear A m n;go_enter func185,ntmps185
 go_wp2;go_loop [5] (fun i=>∃k:Nat,k<=l.length/\i=.int .i64 k/\Hid (∀j (f:j<l.length),j<k->l[j].1≠s)) (fun i=>l.length-(RowKit.intOf i).toNat);case atStart=>exact⟨0,dx _,rfl,G fun j _ f=>z⟩
 case round=>
  obtain⟨k,g,rfl,q⟩:=hrel;by_cases au:k<l.length
  ·have bo:=y.out k au;have D:(0:Int)<=(k:Int):=z;have C:(k:Int)<l.length:=z;by_cases d:l[k].1=s
   ·rw[d]at bo;have aj:=q0 s
    go_wp2;go_ret;exact⟨⟨k,au,rfl,d⟩,rfl⟩
   ·have aj:=fS d;have r:Hid (∀j (f:j<l.length),j<k+1->l[j].1≠s):=G fun j f F=>by
     by_cases e:j=k
     ·subst e;exact d
     ·exact q.out j f z
    generalize l[k].1=x at*
    go_wp2;go_round;case rel=>exact⟨k+1,z,bG,r⟩
    case measure=>simp[RowKit.intOf];omega
  ·exfalso;obtain⟨x,d,e⟩:=u.out;obtain⟨j,f,t⟩:=IF.1 d;exact q.out j f z (by rw[t];exact e)
def BL(n s:Nat)(e:Ending):Prop:=∃(N:Int) (S:Nat),e=.returned (.tuple #[.agg #[.int .i64 N,.int .i64 S],.bool true])/\hn N S/\S<=3/\N.natAbs<=n/\S<=s
theorem ats(a:ByteArray)(n s:Nat)(w:World)(aH:dA a n)(A:n<=1000000000000000)(y:s<=3):χ 395 #[.agg #[.bool true,a,s]] w fun e w'=>BL n s e:=by
 have r:Hid (∀w,χ 108 #[.int .i64 10] w fun e w'=>hJ 10 e):=fun w=>p0 10 w z;have T:=lm w (.cells #[.bool true,a,s] 337 (0,0)) (.cells #[.int .i64 0,.int .i64 0] 38 (0,0));have C:Hid (qW w ((w.alloc (.cells #[.bool true,a,s] 337 (0,0))).alloc (.cells #[.int .i64 0,.int .i64 0] 38 (0,0))) w (w.heap.size+1) true n s a):=⟨⟨T.p⟩,T.q,aH,A,y,T.h,z,z,z⟩;clear T aH A y;go_enter Q_,Wf
 go_wp2;generalize (w.alloc (.cells #[.bool true,a,s] 337 (0,0))).alloc (.cells #[.int .i64 0,.int .i64 0] 38 (0,0))=Q at*;obtain⟨bQ,j⟩:∃bQ,bQ=w.heap.size+1:=⟨_,rfl⟩;obtain⟨c,o⟩:∃c,c=w.heap.size:=⟨_,rfl⟩;rw[←j,←o]at C;rw[←j,←o];clear o j;go_loopw [4,5,6] (fun _ _ _ wr=>∃(m k:Nat) (t:ByteArray),qW w wr c bQ true m k t/\k<=s/\m<=n) (fun _ _ _ wr=>match wr.cell? ⟨c,2,none⟩with|some (.int _ k)=>k.toNat|_=>0);case atStart=>exact⟨n,s,a,C.out,aZ _,aZ _⟩
 case round=>
  obtain⟨m,k,t,d,ku,P⟩:=hrel;have l:=G d;have c1:=d.x.c1;have c2:=d.x.c2;have q:Hid (∀f w,dA f 10->χ 299 #[t,f] w fun e w'=>MU m 10 e):=fun f w I=>A4 t f m 10 w d.t I (by have:=d.n;omega) z z;have V:=d.n;clear d;by_cases O:0<k
  ·have K:0<(k:Int):=z;obtain⟨fg,nc⟩:∃fg,fg+1=k:=⟨k-1,z⟩;have U:(k:Int)-1=(fg:Int):=z
   go_wp2
   go_region_held3 (fun W=>W.cell? ⟨c,1,none⟩=some (.string t)) (first|exact c1|exact aj|exact L|go_keep) (first|(have _:=B;go_at_call 299;(with_reducible refine(q.out f _ B).mono ?_);rintro e S ⟨⟨ej,er,rfl,vD,jK⟩,E⟩;have cE:=G (u.out.K E);have L:=cE.out.x.c1)|(go_at_call 108;(with_reducible refine(r.out _).mono ?_);rintro e R ⟨⟨f,rfl,B⟩,j⟩;have u:=G (l.out.drew.K j);have aj:=u.out.x.c1));by_cases aA:m%10=0;exact aoA;have ng:=KG jK z;have ii:0<(er.size:Int):=z;have x':Hid (k=0∨m%10≠0):=.inr aA;obtain⟨fX,cn⟩:=jV cE.out.r;obtain⟨z0,cy⟩:=mD cE.out.r;have M:=cE.out.x.bo;have H:=cE.out.x.c1;have F:=cE.out.x.c2;have gL:(k:Int)<=6:=(by have:=cE.out.k;omega);have N:(m:Int)<=1000000000000000:=(by have:=cE.out.n;omega);have D:c≠bQ:=(by have:=cE.out.g;omega);have J:bQ≠c:=(by have:=cE.out.g;omega);clear r q l u;exact an0
  have K:¬0<(k:Int):=z;have x':Hid (k=0∨m%10≠0):=.inl z;have cE:=l;obtain⟨fX,cn⟩:=jV cE.out.r;obtain⟨z0,cy⟩:=mD cE.out.r;have M:=cE.out.x.bo;have H:=cE.out.x.c1;have F:=cE.out.x.c2;have gL:(k:Int)<=6:=(by have:=cE.out.k;omega);have N:(m:Int)<=1000000000000000:=(by have:=cE.out.n;omega);have D:c≠bQ:=(by have:=cE.out.g;omega);have J:bQ≠c:=(by have:=cE.out.g;omega);clear r q l;exact an0
theorem atr(a:ByteArray)(n s:Nat)(w:World)(aH:dA a n)(A:n<=1000000000000000)(y:s<=3):χ 395 #[.agg #[.bool false,a,s]] w fun e w'=>BL n s e:=by
 have r:Hid (∀w,χ 108 #[.int .i64 10] w fun e w'=>hJ 10 e):=fun w=>p0 10 w z;have T:=lm w (.cells #[.bool false,a,s] 337 (0,0)) (.cells #[.int .i64 0,.int .i64 0] 38 (0,0));have C:Hid (qW w ((w.alloc (.cells #[.bool false,a,s] 337 (0,0))).alloc (.cells #[.int .i64 0,.int .i64 0] 38 (0,0))) w (w.heap.size+1) false n s a):=⟨⟨T.p⟩,T.q,aH,A,y,T.h,z,z,z⟩;clear T aH A y;go_enter Q_,Wf
 go_wp2;generalize (w.alloc (.cells #[.bool false,a,s] 337 (0,0))).alloc (.cells #[.int .i64 0,.int .i64 0] 38 (0,0))=Q at*;obtain⟨bQ,j⟩:∃bQ,bQ=w.heap.size+1:=⟨_,rfl⟩;obtain⟨c,o⟩:∃c,c=w.heap.size:=⟨_,rfl⟩;rw[←j,←o]at C;rw[←j,←o];clear o j;go_loopw [4,5,6] (fun _ _ _ wr=>∃(m k:Nat) (t:ByteArray),qW w wr c bQ false m k t/\k<=s/\m<=n) (fun _ _ _ wr=>match wr.cell? ⟨c,2,none⟩with|some (.int _ k)=>k.toNat|_=>0);case atStart=>exact⟨n,s,a,C.out,aZ _,aZ _⟩
 case round=>
  obtain⟨m,k,t,d,ku,P⟩:=hrel;have l:=G d;have c1:=d.x.c1;have c2:=d.x.c2;have q:Hid (∀f w,dA f 10->χ 299 #[t,f] w fun e w'=>MU m 10 e):=fun f w I=>A4 t f m 10 w d.t I (by have:=d.n;omega) z z;have V:=d.n;clear d;by_cases O:0<k
  ·have K:0<(k:Int):=z;obtain⟨fg,nc⟩:∃fg,fg+1=k:=⟨k-1,z⟩;have U:(k:Int)-1=(fg:Int):=z
   go_wp2
   go_region_held3 (fun W=>W.cell? ⟨c,1,none⟩=some (.string t)) (first|exact c1|exact aj|exact L|go_keep) (first|(have _:=B;go_at_call 299;(with_reducible refine(q.out f _ B).mono ?_);rintro e S ⟨⟨ej,er,rfl,vD,jK⟩,E⟩;have cE:=G (u.out.K E);have L:=cE.out.x.c1)|(go_at_call 108;(with_reducible refine(r.out _).mono ?_);rintro e R ⟨⟨f,rfl,B⟩,j⟩;have u:=G (l.out.drew.K j);have aj:=u.out.x.c1));by_cases aA:m%10=0;exact aoA;have ng:=KG jK z;have ii:0<(er.size:Int):=z;have x':Hid (k=0∨m%10≠0):=.inr aA;obtain⟨fX,cn⟩:=jV cE.out.r;obtain⟨z0,cy⟩:=mD cE.out.r;have M:=cE.out.x.bo;have H:=cE.out.x.c1;have F:=cE.out.x.c2;have gL:(k:Int)<=6:=(by have:=cE.out.k;omega);have N:(m:Int)<=1000000000000000:=(by have:=cE.out.n;omega);have D:c≠bQ:=(by have:=cE.out.g;omega);have J:bQ≠c:=(by have:=cE.out.g;omega);clear r q l u;exact anT
  have K:¬0<(k:Int):=z;have x':Hid (k=0∨m%10≠0):=.inl z;have cE:=l;obtain⟨fX,cn⟩:=jV cE.out.r;obtain⟨z0,cy⟩:=mD cE.out.r;have M:=cE.out.x.bo;have H:=cE.out.x.c1;have F:=cE.out.x.c2;have gL:(k:Int)<=6:=(by have:=cE.out.k;omega);have N:(m:Int)<=1000000000000000:=(by have:=cE.out.n;omega);have D:c≠bQ:=(by have:=cE.out.g;omega);have J:bQ≠c:=(by have:=cE.out.g;omega);clear r q l;exact anT
theorem JT(neg:Bool)(a:ByteArray)(n s:Nat)(w:World)(aH:dA a n)(c:n<=1000000000000000)(b:s<=3):χ 395 #[.agg #[.bool neg,a,s]] w fun e w'=>BL n s e:=by
 cases neg;exact atr a n s w aH c b;exact ats a n s w aH c b
variable{w:World}{b:Nat}{o:Obj}
theorem c8(h:w.heap[b]? =some o):b<w.heap.size:=(g6.1 h).1
def avx(n M:Nat)(e:Ending):Prop:=∃(neg:Bool) (k:Nat),nC neg k M e/\k<=n
theorem aGQ(p q:Bool)(a b:ByteArray)(m n s u M:Nat)(w:World)(aH:dA a m)(A:dA b n)(d:m<=1000000000000000)(f:n<=1000000000000000)(j:M=max s u)(k:M<=3)(X c:Nat)(g:X=m*10^(M-s))(i:c=n*10^(M-u)): χ 560 #[.agg #[.bool p,a,s],.agg #[.bool q,b,u]] w fun e w'=>avx (X+c) M e:=by
 have x:10^(M-s)<=10^3:=kO z z;have t:10^(M-u)<=10^3:=kO z z;have l:X<=1000000000000000000:=by rw[g];exact zv d x
 have o:c<=1000000000000000000:=by rw[i];exact zv f t
 by_cases r:p=q;subst r;exact(adb p a b m n s u M w aH A d f j k X c g i l o).mono fun e w' ⟨h,A⟩=>⟨⟨_,_,h,aZ _⟩,A⟩
 ·cases p
  ·obtain rfl:q=true:=by cases q<;>simp_all
   by_cases au:X<c;exact(aqe a b m n s u M w aH A d f j k X c g i l o au).mono fun e w' ⟨h,A⟩=>⟨⟨_,_,h,z⟩,A⟩;exact(aqg a b m n s u M w aH A d f j k X c g i l o z).mono fun e w' ⟨h,A⟩=>⟨⟨_,_,h,z⟩,A⟩
  ·obtain rfl:q=false:=by cases q<;>simp_all
   by_cases au:X<c;exact(aqf a b m n s u M w aH A d f j k X c g i l o au).mono fun e w' ⟨h,A⟩=>⟨⟨_,_,h,z⟩,A⟩;exact(aqh a b m n s u M w aH A d f j k X c g i l o z).mono fun e w' ⟨h,A⟩=>⟨⟨_,_,h,z⟩,A⟩
variable{c i:Nat}{v:Value}
theorem rS{j k:Nat}{u:Value}(h:c≠b):((w.setCell ⟨c,j,none⟩ u).setCell ⟨c,k,none⟩ v).cell? ⟨b,i,none⟩=w.cell? ⟨b,i,none⟩:=by
 rw[uG _ _ _ _ h,uG _ _ _ _ h]
theorem QL(w:World)(a b c:Obj):β w (((w.alloc a).alloc b).alloc c)/\(((w.alloc a).alloc b).alloc c).heap[w.heap.size]? =some a/\(((w.alloc a).alloc b).alloc c).heap[w.heap.size+1]? =some b/\(((w.alloc a).alloc b).alloc c).heap[w.heap.size+1+1]? =some c:=by
 have cy:=i_ w a;have dz:=i_ (w.alloc a) b;exact acw
theorem ah4(i j:Int)(m q M:Nat)(w:World)(H:hn i m)(I:hn j q)(fl:M=max m q)(ig:M<=3)(X D:Nat)(T:X=i.natAbs*10^(M-m))(fF:D=j.natAbs*10^(M-q))(DS:X+D<=1000000000000000): χ 526 #[.agg #[i,m],.agg #[j,q]] w fun e w'=>BL (X+D) M e:=by
 have V:=G fun W=>ym i m W H;have U:=G fun W=>ym j q W I;have hV:=G fun a b W (aH:dA a i.natAbs) (A:dA b j.natAbs)=>aGQ (decide (i<0)) (decide (j<0)) a b i.natAbs j.natAbs m q M W aH A (by have:=H.2.2;omega) (by have:=I.2.2;omega) fl ig X D T fF;have lq:=G fun neg a n W (aH:dA a n) (ax:n<=X+D)=>JT neg a n M W aH z ig;obtain⟨W,J⟩:∃W,W=((w.alloc (.cells #[i,m] 38)).alloc (.cells #[j,q] 38)).alloc (.cells #[.int .i64 0,.int .i64 0] 38):=⟨_,rfl⟩;have aw:=QL w (.cells #[i,m] 38) (.cells #[j,q] 38) (.cells #[.int .i64 0,.int .i64 0] 38);rw[←J]at aw;obtain⟨E,K,F,C⟩:=aw;clear H I fl T fF DS;go_enter func526,ntmps526
 go_wp2;rw[←J];clear J;obtain⟨fI,Y⟩:=jV K;obtain⟨Z,dp⟩:=jV F;obtain⟨fX,cn⟩:=jV C;obtain⟨z0,cy⟩:=mD C;have L:=(g6.1 K).1;have bZ:=(g6.1 F).1;have cp:=(g6.1 C).1;have Q:w.heap.size+1+1≠w.heap.size:=z;have R:w.heap.size+1+1≠w.heap.size+1:=z;have cm:=G C;have O:=G E;clear K F C E
 go_region_held3 (fun aT=>aT.cell? ⟨w,0,none⟩=some (.int .i64 i)/\aT.cell? ⟨w,1,none⟩=some (.int .i64 m)/\aT.cell? ⟨w.heap.size+1,0,none⟩=some (.int .i64 j)/\aT.cell? ⟨w.heap.size+1,1,none⟩=some (.int .i64 q)) (first|exact⟨fI,Y,Z,dp⟩|exact⟨t,u,s,r⟩|exact⟨(rS Q).trans t,(rS Q).trans u,(rS R).trans s,(rS R).trans r⟩|go_keep) (first|(go_at_call 395;(with_reducible refine(lq.out _ _ _ _ qA P).mono ?_);rintro e bi ⟨⟨N,S,rfl,ka,tU,tV,xh⟩,o⟩;have t:=az o l t;have u:=az o l u;have s:=az o k s;have r:=az o k r;have fo:=az o c fo;have x:=az o c x;have B:=rj o c B;have y:=rj o c y)|(go_at_call 560;(with_reducible refine(hV.out _ _ _ re oP).mono ?_);rintro e a_ ⟨⟨ab,n5,⟨t5,rfl,qA⟩,P⟩,d⟩;have t:=az d l t;have u:=az d l u;have s:=az d k s;have r:=az d k r;have fo:=az d c fo;have x:=az d c x;have B:=rj d c B;have y:=rj d c y;have l:=cS d l;have k:=cS d k;have c:=cS d c)|(have aa:=re;go_at_call 297;(with_reducible refine(U.out _).mono ?_);rintro e bn ⟨⟨t4,rfl,oP⟩,g⟩;have t:=az g l t;have u:=az g l u;have s:=az g k s;have r:=az g k r;have fo:=az g c fo;have x:=az g c x;have B:=rj g c B;have y:=rj g c y;have l:=cS g l;have k:=cS g k;have c:=cS g c)|(go_at_call 297;(with_reducible refine(V.out _).mono ?_);rintro e bX ⟨⟨t3,rfl,re⟩,f⟩;have t:=az f L fI;have u:=az f L Y;have s:=az f bZ Z;have r:=az f bZ dp;have fo:=az f cp fX;have x:=az f cp cn;have B:=rj f cp z0;have y:=rj f cp cy;have l:=cS f L;have k:=cS f bZ;have c:=cS f cp))
 have iL:=O.out.drew.trans (f.mono O.out.size);have jc:=cj iL g;have hB:=cj jc d;have gy:=cj hB o;have E:=G ((gy.setCell (p:=⟨w.heap.size+1+1,0,none⟩) (show w.heap.size<=w.heap.size+1+1 by omega) N).setCell (p:=⟨w.heap.size+1+1,1,none⟩) (show w.heap.size<=w.heap.size+1+1 by omega) S);clear iL jc hB gy O V U hV lq cm
 go_wp2;refine jT (by simp[results,results526,go_sem,fo,x];rfl) rfl ?_;exact⟨⟨N,S,rfl,ka,tU,cO tV P,xh⟩,E.out⟩
theorem aES(f g:Int)(c d M:Nat)(w:World)(fl:M=c+d)(H:hn f c)(I:hn g d)(ig:c+d<=3)(ap:f.natAbs<16777216)(ax:g.natAbs<2147483648)(DS:f.natAbs*g.natAbs<=1000000000000000): χ 528 #[.agg #[f,c],.agg #[g,d]] w fun e w'=>BL (f.natAbs*g.natAbs) M e:=by
 have bl:=G fun W=>ym f c W H;have bH:=G fun W=>ym g d W I;have hV:=G fun a b W (aH:dA a f.natAbs) (A:dA b g.natAbs)=>ao' a b _ _ W aH A ap ax;have lq:Hid (∀(neg:Bool) (a:ByteArray) (W:World),dA a (f.natAbs*g.natAbs)->χ 395 #[.agg #[.bool neg,a,.int .i64 ((c:Int)+(d:Int))]] W fun e w'=>BL (f.natAbs*g.natAbs) M e):=G fun neg a W aH=>by rw[show(c:Int)+(d:Int)=M by omega];exact JT neg a _ M W aH DS z
 obtain⟨W,X⟩:∃W,W=((w.alloc (.cells #[f,c] 38)).alloc (.cells #[g,d] 38)).alloc (.cells #[.int .i64 0,.int .i64 0] 38):=⟨_,rfl⟩;have aw:=QL w (.cells #[f,c] 38) (.cells #[g,d] 38) (.cells #[.int .i64 0,.int .i64 0] 38);rw[←X]at aw;obtain⟨q,cQ,U,k⟩:=aw;have mP:IntKind.i64.wrap ((c:Int)+(d:Int))=(c:Int)+(d:Int):=pw _ ⟨z,z⟩;have lF:(c:Int)<=3:=z;have oS:(d:Int)<=3:=z;clear H I DS ap ax;go_enter func528,ntmps528;go_upto_region 1 with fail
 rw[←X];clear X;obtain⟨E,x⟩:=jV cQ;go_upto_region 2 with(go_at_call 297;(with_reducible refine(bl.out _).mono ?_);rintro e n ⟨⟨t3,rfl,re⟩,l⟩)
 have iL:=(cj q l).alloc (cj q l).size (.cells #[.bool (decide (f<0)),t3,c] 337);have P:β W (n.alloc (.cells #[.bool (decide (f<0)),t3,c] 337)):=l.alloc l.size _;have Gu:=(P.block _ (c8 U)).trans U;have Q:=(P.block _ (c8 k)).trans k;have O:=cW n (.cells #[.bool (decide (f<0)),t3,c] 337);have Cx:w.heap.size+1+1<n.heap.size:=iK (c8 k) l.size;clear E x cQ U k q l P;generalize n.heap.size=r at*;generalize (n.alloc (.cells #[.bool (decide (f<0)),t3,c] 337))=zU at*;obtain⟨B,D⟩:=jV Gu;go_upto_region 3 with(go_at_call 297;(with_reducible refine(bH.out _).mono ?_);rintro e o ⟨⟨t4,rfl,oP⟩,m⟩)
 have jc:=(cj iL m).alloc (cj iL m).size (.cells #[.bool (decide (g<0)),t4,d] 337);have V:β zU (o.alloc (.cells #[.bool (decide (g<0)),t4,d] 337)):=m.alloc m.size _;have k:=(V.block _ (c8 Q)).trans Q;have R:=(V.block _ (c8 O)).trans O;have T:=cW o (.cells #[.bool (decide (g<0)),t4,d] 337);have ab:r<o.heap.size:=iK (c8 O) m.size;clear B D Gu Q O iL m V;generalize o.heap.size=t at*;generalize (o.alloc (.cells #[.bool (decide (g<0)),t4,d] 337))=aa at*;obtain⟨E,x,B⟩:=yp R;obtain⟨D,ov,xO⟩:=yp T;obtain⟨fX,cn⟩:=jV k;obtain⟨z0,cy⟩:=mD k;have F:=c8 R;have bZ:=c8 T;have cp:=c8 k;have Y:w.heap.size+1+1≠r:=z;have eK:w.heap.size+1+1≠t:=z;have oA:=G jc;clear R T k jc
 go_region_held3 (fun aT=>aT.cell? ⟨r,0,none⟩=some (.bool (decide (f<0)))/\aT.cell? ⟨r,1,none⟩=some (.string t3)/\aT.cell? ⟨r,2,none⟩=some (.int .i64 c)/\aT.cell? ⟨t,0,none⟩=some (.bool (decide (g<0)))/\aT.cell? ⟨t,1,none⟩=some (.string t4)/\aT.cell? ⟨t,2,none⟩=some (.int .i64 d)) (first|exact⟨E,x,B,D,ov,xO⟩|exact⟨y,C,u,s,L,K⟩|exact⟨(rS Y).trans y,(rS Y).trans C,(rS Y).trans u,(rS eK).trans s,(rS eK).trans L,(rS eK).trans K⟩|go_keep) (first|(go_at_call 395;(with_reducible refine(lq.out _ _ _ qA).mono ?_);rintro e bi ⟨⟨N,S,rfl,ka,tU,tV,xh⟩,j⟩;have y:=az j ik y;have C:=az j ik C;have u:=az j ik u;have s:=az j gp s;have L:=az j gp L;have K:=az j gp K;have fo:=az j J fo;have Z:=az j J Z;have eN:=rj j J eN;have dv:=rj j J dv)|(go_at_call 190;(with_reducible refine(hV.out _ _ _ re oP).mono ?_);rintro e a_ ⟨⟨t5,rfl,qA⟩,i⟩;have y:=az i F E;have C:=az i F x;have u:=az i F B;have s:=az i bZ D;have L:=az i bZ ov;have K:=az i bZ xO;have fo:=az i cp fX;have Z:=az i cp cn;have eN:=rj i cp z0;have dv:=rj i cp cy;have ik:=cS i F;have gp:=cS i bZ;have J:=cS i cp))
 have hB:=oA.out.drew.trans (i.mono oA.out.size);have gy:=cj hB j;have q:=G ((gy.setCell (p:=⟨w.heap.size+1+1,0,none⟩) (show w.heap.size<=w.heap.size+1+1 by omega) N).setCell (p:=⟨w.heap.size+1+1,1,none⟩) (show w.heap.size<=w.heap.size+1+1 by omega) S);clear hB gy oA bl bH hV lq
 go_wp2;refine jT (by simp[results,results528,go_sem,fo,Z];rfl) rfl ?_;exact⟨⟨N,S,rfl,ka,tU,tV,xh⟩,q.out⟩
theorem aqX(n p:Nat)(ag:0<p):(n*2+p)/(p*2)<=n:=by
 have h:n*2+p<p*2*(n+1):=by
  have I:n<=n*p:=atb n ag;have a:p*2*(n+1)=2*(n*p)+2*p:=by rw[Fw,tm,II p 2,Fx,II p n]
  omega
 have:=(Nat.div_lt_iff_lt_mul (z:0<p*2)).2 (by rw[II (n+1)];exact h);omega
theorem aHX(N:Int)(S:Nat)(w:World)(H:hn N S)(bm:S<=3)(ec:N.natAbs<=1000000000000): χ 529 #[.agg #[N,S],.int .i64 1] w fun e w'=>BL N.natAbs 1 e:=by
 have bl:=G fun W=>ym N S W H;have T:=lm w (.cells #[N,S] 38 (0,0)) (.cells #[.int .i64 0,.int .i64 0] 38 (0,0));have L:=T.p;have l:=T.q;have x:=T.h;obtain⟨q,n⟩:=jV L;clear T;obtain⟨W,J⟩:∃W,W=(w.alloc (.cells #[N,S] 38 (0,0))).alloc (.cells #[.int .i64 0,.int .i64 0] 38 (0,0)):=⟨_,rfl⟩;rw[←J]at L l x q n;go_enter func529,ntmps529;go_upto_region 3 with fail
 rw[←J];clear J;go_upto_region 4 with(go_at_call 297;(with_reducible refine(bl.out _).mono ?_);rintro e m ⟨⟨t3,rfl,re⟩,j⟩)
 have iL:=(cj x j).alloc (cj x j).size (.cells #[.bool (decide (N<0)),t3,S] 337);have Y:β W (m.alloc (.cells #[.bool (decide (N<0)),t3,S] 337)):=j.alloc j.size _;have u:=(Y.block _ (c8 l)).trans l;have B:=cW m (.cells #[.bool (decide (N<0)),t3,S] 337);have Cx:w.heap.size+1<m.heap.size:=iK (c8 l) j.size;clear q n L l x j Y;generalize m.heap.size=fp at*;generalize (m.alloc (.cells #[.bool (decide (N<0)),t3,S] 337))=zU at*;obtain⟨q,n,dk⟩:=yp B;have R:=G iL;have M:=G u;have y:=c8 B;have bZ:=c8 u;by_cases ay:S<=1
 ·have ei:(S:Int)<=1:=z;have Q:=G fun W=>JT (decide (N<0)) t3 N.natAbs S W re z z;clear H u B iL
  go_wp2_with (go_at_call 395;(with_reducible refine(Q.out _).mono ?_);rintro e bi ⟨⟨K,Z,rfl,P,U,V,xh⟩,d⟩;have ae:=(d.block _ bZ).trans M.out;obtain⟨fX,O⟩:=jV ae;obtain⟨z0,cy⟩:=mD ae);have r:=cj R.out d;refine jT (by simp[results,results529,go_sem,fX,O];rfl) rfl ?_;exact⟨⟨K,Z,rfl,P,U,V,z⟩,(r.setCell (p:=⟨w.heap.size+1,0,none⟩) (show w.heap.size<=w.heap.size+1 by omega) _).setCell (p:=⟨w.heap.size+1,1,none⟩) (show w.heap.size<=w.heap.size+1 by omega) _⟩
 ·have ei:¬(S:Int)<=1:=z;have ag:0<10^(S-1):=IJ z;have h0:10^(S-1)<=100:=by have:10^(S-1)<=10^2:=kO z z;omega
  have bH:Hid (∀W,χ 298 #[.int .i64 ((S:Int)-1)] W fun e w'=>hJ (10^(S-1)) e):=G fun W=>by rw[show(S:Int)-1=((S-1:Nat):Int) by omega];exact K4 (S-1) W z
  have ab:Hid (∀W,χ 108 #[.int .i64 2] W fun e w'=>hJ 2 e):=G fun W=>p0 2 W z;generalize 10^(S-1)=p at*;have RB:=G fun b W (A:dA b 2)=>UT t3 b N.natAbs 2 W re A z z z;have zA:=G fun a b W (aH:dA a p) (A:dA b 2)=>UT a b p 2 W aH A z z z;have pA:=G fun a b W (aH:dA a (N.natAbs*2)) (A:dA b p)=>F5 a b _ p W aH A z z;have RC:=G fun a b W (aH:dA a (N.natAbs*2+p)) (A:dA b (p*2))=>A4 a b _ _ W aH A z z z;have Q:Hid (∀(a:ByteArray) (W:World),dA a ((N.natAbs*2+p)/(p*2))->χ 395 #[.agg #[.bool (decide (N<0)),a,.int .i64 1]] W fun e w'=>BL ((N.natAbs*2+p)/(p*2)) 1 e):=G fun a W aH=>JT (decide (N<0)) a _ 1 W aH (cO (aqX _ p ag) z) z;have dK:=aqX N.natAbs p ag;clear H u B iL;go_upto_region 7 with(go_at_call 298;(with_reducible refine(bH.out _).mono ?_);rintro e E ⟨⟨t5,rfl,qA⟩,g⟩)
  have I:=az g y n;have aj:=az g y q;have F:=cS g y;have ad:=G ((g.block _ bZ).trans M.out);have D:=cS g bZ;have r:=G (cj R.out g);clear q n dk y bZ M R g
  go_region_held3 (fun aT=>aT.cell? ⟨fp,1,none⟩=some (.string t3)) (first|exact I|exact o|go_keep) (first|(go_at_call 43;(with_reducible refine(pA.out _ _ _ aq qA).mono ?_);rintro e dc ⟨⟨Lm,rfl,am⟩,k⟩;have f:=az k c f;have o:=az k c o;have c:=cS k c)|(go_at_call 190;(with_reducible refine(RB.out _ _ yM).mono ?_);rintro e w7 ⟨⟨Fb,rfl,aq⟩,i⟩;have f:=az i c f;have o:=az i c o;have c:=cS i c)|(go_at_call 108;(with_reducible refine(ab.out _).mono ?_);rintro e bi ⟨⟨ky,rfl,yM⟩,d⟩;have f:=az d F aj;have o:=az d F I;have c:=cS d F))
  have gy:=r.out.drew.trans (d.mono r.out.size);have fx:=cj gy i;have X:=cj fx k;have n8:=G (k.block _ (iK (iK (show w.heap.size+1<E.heap.size from D) d.size) i.size));have o6:=i.block _ (iK (show w.heap.size+1<E.heap.size from D) d.size);have x9:=d.block _ (show w.heap.size+1<E.heap.size from D);have tt:=G ((((n8.out.trans o6).trans x9).trans ad.out));have ak:=G X;have aa:w.heap.size+1<dc.heap.size:=c8 tt.out;clear r gy fx X n8 o6 x9 ad d i k aj I pA RB
  go_wp2_with (first|(go_at_call 395;(with_reducible refine(Q.out _ _ ao).mono ?_);rintro e oV ⟨⟨K,Z,rfl,P,U,V,xh⟩,oj⟩;have af:=(oj.block _ ap).trans av;obtain⟨fX,O⟩:=jV af;obtain⟨z0,cy⟩:=mD af)|(go_at_call 299;(with_reducible refine(RC.out _ _ _ am al).mono ?_);rintro e aC ⟨⟨aB,tr,rfl,ao,aA⟩,C⟩;have av:=(C.block _ ah).trans au;have bo:=az C c f;have ap:=cS C ah)|(go_at_call 190;(with_reducible refine(zA.out _ _ _ qA an).mono ?_);rintro e xN ⟨⟨Bb,rfl,al⟩,t⟩;have au:=(t.block _ ai).trans RT;have ah:=cS t ai;have f:=az t c f;have c:=cS t c)|(go_at_call 108;(with_reducible refine(ab.out _).mono ?_);rintro e gG ⟨⟨t9,rfl,an⟩,s⟩;have RT:=(s.block _ aa).trans tt.out;have ai:=cS s aa;have f:=az s c f;have c:=cS s c))
  have uM:=cj ak.out s;have aw:=cj uM t;have L2:=cj aw C;have ax:=cj L2 oj;refine jT (by simp[results,results529,go_sem,fX,O];rfl) rfl ?_;exact⟨⟨K,Z,rfl,P,U,cO V dK,xh⟩,(ax.setCell (p:=⟨w.heap.size+1,0,none⟩) (show w.heap.size<=w.heap.size+1 by omega) _).setCell (p:=⟨w.heap.size+1,1,none⟩) (show w.heap.size<=w.heap.size+1 by omega) _⟩
theorem aHO(n:Int)(w:World):Calls prog 414 #[n] w fun e w'=>e=.returned (.bool (decide (0<=n)&&decide (n<=3652058)))/\w=w':=by
 by_cases ae:0<=n
 ·go_enter func414,ntmps414
  go_wp2;go_ret;exact⟨by simp[ae],rfl⟩
 ·go_enter func414,ntmps414
  go_wp2;go_ret;exact⟨bz,rfl⟩
def avj(e:Ending):Prop:=∃(n:Int) (ok:Bool),e=.returned (.tuple #[.int .i64 n,.bool ok])/\(ok=true->0<=n/\n<=3652058)
theorem awd(n d:Int)(ae:0<=n)(H:n<=3652058)(hd: -1000000000000000<=d)(g:d<=1000000000000000)(w:World):Calls prog 531 #[n,d] w fun e w'=>avj e/\w=w':=by
 have bl:=G fun n w=>aHO n w;have aj:(decide (0<=n)&&decide (n<=3652058))=true:=by simp[ae,H]
 have j:IntKind.i64.wrap (n+d)=n+d:=pw _ ⟨z,z⟩;by_cases I:d< -3652058;exact anR
 ·by_cases i:3652058<d;exact anR
  ·by_cases b:0<=n+d/\n+d<=3652058
   ·have a:(decide (0<=n+d)&&decide (n+d<=3652058))=true:=by simp[b.1,b.2]
    go_enter func531,ntmps531
    go_wp2_with (first|(have f:=c;go_at_call 414;(with_reducible refine(bl.out _ _).mono ?_);rintro e am ⟨rfl,rfl⟩;rw[a])|(go_at_call 414;(with_reducible refine(bl.out _ _).mono ?_);rintro e am ⟨rfl,rfl⟩;rw[aj];have c:True:=g'))
    go_ret2
    exact⟨⟨_,true,rfl,fun _=>b⟩,rfl⟩
   ·have a:(decide (0<=n+d)&&decide (n+d<=3652058))=false:=bz;go_enter func531,ntmps531
    go_wp2_with (first|(have f:=c;go_at_call 414;(with_reducible refine(bl.out _ _).mono ?_);rintro e am ⟨rfl,rfl⟩;rw[a])|(go_at_call 414;(with_reducible refine(bl.out _ _).mono ?_);rintro e am ⟨rfl,rfl⟩;rw[aj];have c:True:=g'))
    go_ret2
    exact⟨⟨0,false,rfl,fun h=>by simp at h⟩,rfl⟩
theorem abM(w:World)(a:Option Addr)(c:Nat)(l:List ByteArray)(s:ByteArray)(h:hc aV w a l): Calls prog 556 #[.slice a l c,s] w fun e w'=>ahu l s e/\w=w':=by
 have d:=h.1;have aw:=G h.2;clear h;go_enter func556,ntmps556;exact an1
def avd(e:Ending):Prop:=∃r:Bool,e=.returned (.bool r)
theorem abU(d g:Nat)(w:World)(F a:Array Value)(v u:bC)(h:aU aV d w F v)(c:aU aV g w a u): χ 557 #[.agg F,.agg a] w fun e w'=>avd e:=by
 obtain⟨k,s,N,S,n,cs,aQ⟩:=v;obtain⟨j,m,z,A,n',l,B⟩:=u;have j1:β w ((w.alloc (.cells F 42 (0,0))).alloc (.cells a 42 (0,0))):=
  ((br _ _).alloc (aZ _) _).alloc ao _
 have bl:=G (S8 d g _ F a _ _ (h.K j1) (c.K j1));obtain⟨ca,cc,ra,rc,rfl,_⟩:=h.gX;obtain⟨o,r,x,y,rfl,_⟩:=c.gX;have T:=lm w (.cells (bM k s N S n ca cs cc ra aQ rc) 42 (0,0)) (.cells (bM j m z A n' o l r x B y) 42 (0,0));clear h c;by_cases f:k=0;subst f;exact an9
 ·have q:(k==0)=false:=by simpa using f
  exact an9
variable{n:Nat}
theorem amX(aQ:List (List bC))(J:e0 n (hS aQ))(w:World)(F:Array Value)(h:aU aV 1 w F (hS aQ)): χ 558 #[.agg F] w fun e w'=>oD e:=by
 have c:β w (w.alloc (.cells F 42 (0,0))):=(br _ _).alloc (aZ _) _;have d:=G (ads J _ F (h.K c));obtain⟨ca,cc,ra,rc,rfl,_⟩:=h.gX;have f:∀o,(w.alloc o).heap[w.heap.size]? =some o:=fun o=>cW w o;have au:∀o,w.heap.size<(w.alloc o).heap.size:=fun o=>ao;clear h J;go_enter func558,ntmps558
 go_wp2_with (go_at_call 202;refine(d.out).mono ?_;rintro e g ⟨rfl,a⟩;have j:=aK 0 ((a.block _ (au _)).trans (f _)));go_ret;exact⟨rfl,cj c a⟩
theorem anc:li≠k5:=ak
variable{x:Int}
theorem axt(h:(∃(k:Nat) (a:k<[li,k5].length),x=k/\[li,k5][k]=k5)∨(x= -1/\k5∉[li,k5])):x=1:=by
 rcases h with⟨k,a,rfl,aO⟩|⟨_,aO⟩
 ·match k,a with
  |0,_=>exact absurd aO anc
  |1,_=>rfl
 exact absurd ao aO
theorem axw(h:(∃(k:Nat) (a:k<[li,k5].length),x=k/\[li,k5][k]=li)∨(x= -1/\li∉[li,k5])):x=0:=by
 rcases h with⟨k,a,rfl,aO⟩|⟨_,aO⟩
 ·match k,a with
  |0,_=>rfl
  |1,_=>exact absurd aO.symm anc
 exact absurd ao aO
def e7(base n:Nat)(e:Ending)(w':World):Prop:=∃k s N S n' ca cl cc ra rl rc err,e=.returned (.tuple #[.agg (bM k s N S n' ca cl cc ra rl rc),.int .i64 err])/\0<=err/\err<=99/\(err=0->∃v,aU (fa base) 1 w' (bM k s N S n' ca cl cc ra rl rc) v/\e0 n v)
variable{k N n':Int}{s:ByteArray}{ca ra:Option Addr}{cl cc rl rc:Nat}
theorem e7.none(base n:Nat)(w':World)(err:Int)(ae:1<=err)(H:err<=99){S:Int}:e7 base n (.returned (.tuple #[.agg (bM k s N S n' ca cl cc ra rl rc),err])) w':=⟨_,_,_,_,_,_,_,_,_,_,_,_,rfl,z,H,fun h=>z⟩
theorem e7.some(base n:Nat)(w':World){v:bC}{S:Int}(J:aU (fa base) 1 w' (bM k s N S n' ca cl cc ra rl rc) v)(an:e0 n v):e7 base n (.returned (.tuple #[.agg (bM k s N S n' ca cl cc ra rl rc),.int .i64 0])) w':=⟨_,_,_,_,_,_,_,_,_,_,_,_,rfl,z,z,fun _=>⟨v,J,an⟩⟩
theorem aq2{c:Option Addr}{r:List bC}(h:cz aV (aU aV 0) w c r)(q:tp r):∃s N a b l m k n d e f g,r=[hG s,gD N 0]/\kp s/\ -10<=N/\N<=10/\c=some ⟨a,b,none⟩/\a<w.heap.size/\u_ w a b (.int .i64 1) (.string s) (.int .i64 0) (.int .i64 0) (.int .i64 0) (.slice l 0 m) (.slice k 0 n)/\u_ w a (b+7) (.int .i64 2) (.string bO) N (.int .i64 0) (.int .i64 0) (.slice d 0 e) (.slice f 0 g):=by
 obtain⟨s,N,rfl,t,H,I⟩:=q;obtain⟨a,b,rfl,_,x,o⟩:=h.2 ao;obtain⟨Q,bP,S,T,R,l,B,m,k,E,n,y,i⟩:=o 0 ao;obtain⟨b4,O,L,P,M,d,U,e,f,V,g,u,j⟩:=o 1 ao;obtain⟨_,z,A,C,D,dC,_⟩:=y;obtain⟨_,F,G,J,K,aj,_⟩:=u;injection dC with dC
 injection aj with aj
 simp only[p7,Iv,Iw,Fm,Fy,Bt]at dC aj;obtain⟨rfl,rfl,rfl,rfl,rfl,⟨rfl,rfl,rfl⟩,rfl,rfl,rfl⟩:=dC;obtain⟨rfl,rfl,rfl,rfl,rfl,⟨rfl,rfl,rfl⟩,rfl,rfl,rfl⟩:=aj;simp only[uL,h7,Rv,uJ]at i j;exact⟨_,_,a,b,_,_,_,_,_,_,_,_,rfl,t,H,I,rfl,x,i,j⟩
structure zR (w:World) (F:Array Value) (wr:World):Prop where
 b:β w wr
 g:wr.heap[w.heap.size]? =some (.cells F 42 (0,0))
 l:wr.heap[w.heap.size+1]? =some (.cells #[.int .i64 0,.int .i64 0] 38 (0,0))
 o:wr.heap[w.heap.size+1+1]? =some (.cells fh 42 (0,0))
variable{wr w':World}{F:Array Value}
theorem zR.K(h:zR w F wr)(A:β wr w'):zR w F w':=
 ⟨cj h.b A,by rw[A.block _ (bF h.g)];exact h.g,by rw[A.block _ (bF h.l)];exact h.l,by rw[A.block _ (bF h.o)];exact h.o⟩
theorem zR.set(h:zR w F wr)(b:Nat)(A:w.heap.size+3<=b)(i:Nat)(u:Value):zR w F (wr.setCell ⟨b,i,none⟩ u):=
 ⟨h.b.setCell (p:=⟨b,i,none⟩) (show w.heap.size<=b by omega) _,by rw[g_ _ _ _ _ (by show w.heap.size≠b;omega)];exact h.g,by rw[g_ _ _ _ _ (by show w.heap.size+1≠b;omega)];exact h.l,by rw[g_ _ _ _ _ (by show w.heap.size+1+1≠b;omega)];exact h.o⟩
theorem zR.start(w:World)(F:Array Value):zR w F (((w.alloc (.cells F 42)).alloc (.cells #[.int .i64 0,.int .i64 0] 38)).alloc (.cells fh 42)):=by
 obtain⟨H,I,b,a⟩:=QL w (.cells F 42) (.cells #[.int .i64 0,.int .i64 0] 38) (.cells fh 42);exact⟨H,I,b,a⟩
theorem awe(N M:Int)(w:World)(H:N.natAbs<=100)(I:M.natAbs<=100):χ 526 #[.agg #[N,.int .i64 0],.agg #[M,.int .i64 0]] w fun e w'=>BL (N.natAbs+M.natAbs) 0 e:=
 ah4 N M 0 0 0 w ⟨ao,ao,z,z,.inl rfl⟩ ⟨ao,ao,z,z,.inl rfl⟩ rfl z N.natAbs M.natAbs ao ao z
theorem aiE(N:Int)(w:World)(H:N.natAbs<=100):χ 532 #[.agg #[N,.int .i64 0],.agg #[.int .i64 0,.int .i64 0]] w fun e w'=>(∃c,FW c e):=
 (aiD N 0 0 0 0 w ⟨ao,ao,z,z,.inl rfl⟩ ⟨ao,ao,z,z,.inl rfl⟩ rfl z _ rfl).mono fun e w' ⟨h,A⟩=>⟨⟨_,h⟩,A⟩
theorem aJK{m n:Nat}(ap:1<=m)(aQ:List (List bC))(J:e0 n (hS aQ))(w:World)(F:Array Value)(h:aU aV 1 w F (hS aQ)): χ 524 #[.agg F,k5,.agg #[.int .i64 0,.int .i64 0]] w (e7 w m):=by
 have AD:aQ.length<=3/\∀r∈aQ,tp r:=by cases J with|hS _ ah h=>exact⟨ah,h⟩
 have bl:=G fun W (O:β w W)=>amX aQ J W F (h.K O);obtain⟨ca,cc,ra,rc,rfl,gb,qz⟩:=h;have Z:=G (zR.start w (bM 5 bO 0 0 0 ca 2 cc ra aQ.length rc));have bH:=G fun W (O:β w W)=>abM W ca cc [li,k5] k5 (gb.K O);have iN:=G (fun W (O:β w W)=>(hK.K (aU.mono aV 0) qz O).2);have cm:=G (fun i (hi:i<aQ.length)=>AD.2 _ (fP hi));have ah:=AD.1;clear J gb qz AD;go_enter func524,ntmps524;go_upto_region 1 with fail
 generalize (((w.alloc (.cells (bM 5 bO 0 0 0 ca 2 cc ra aQ.length rc) 42)).alloc (.cells #[.int .i64 0,.int .i64 0] 38)).alloc (.cells fh 42))=am at Z⊢;have d:=Z.out;obtain⟨eN,dv,dy,gj,hF,hQ,i8⟩:=eX d.g;have gZ:=bF d.g;have aS:=d.b;clear d;go_upto_region 4 with(go_at_call 558;refine(bl.out _ aS).mono ?_;rintro e M ⟨rfl,bp⟩)
 have D:=G (Z.out.K bp);have l2:=aK 5 D.out.g;have bZ:=bF D.out.g;have bf:=D.out.b;clear eN dv dy gj hF hQ i8 gZ Z aS bp;go_upto_region 7 with(go_at_call 556;refine(bH.out _ bf).mono ?_;rintro e bX ⟨⟨x,rfl,ad⟩,rfl⟩;obtain rfl:=axt ad)
 have lQ:=G (D.out.K (e4 M (.cells #[.int .i64 0,.int .i64 0] 38)));have yK:=cW M (.cells #[.int .i64 0,.int .i64 0] 38);have ph:w.heap.size+3<=M.heap.size:=bF D.out.o
 go_wp2;clear l2 bZ bl bH D bf;generalize pN:M.heap.size=bL at*;generalize (M.alloc (.cells #[.int .i64 0,.int .i64 0] 38))=bn at*;go_loopw [11] (fun i wr=>∃(k:Nat) (N:Int),k<=aQ.length/\i=.int .i64 k/\zR w (bM 5 bO 0 0 0 ca 2 cc ra aQ.length rc) wr/\wr.heap[bL]? =some (.cells #[.int .i64 N,.int .i64 0] 38 (0,0))/\N.natAbs<=10*k) (fun i _=>aQ.length-(RowKit.intOf i).toNat);case atStart=>exact⟨0,0,dx _,rfl,lQ.out,yK,ao⟩
 case round=>
  clear lQ yK;obtain⟨k,N,af,rfl,d,P,ec⟩:=hrel;have U:=aK 6 d.g;have bZ:=bF d.g;obtain⟨bP,B⟩:=jV P;have l:=bF P;by_cases au:k<aQ.length
  ·obtain⟨cV,l',rfl,_,jm,lD⟩:=iN.out _ d.b z;obtain⟨dD,ep,A,ab⟩:=lD k au;obtain⟨gw,rH,i4,gC,jj,jk,i0,js,gJ,gK,gu,gv,lg,cM,ag,Cb,rfl,E,s,Y⟩:=aq2 ab (cm.out k au);rw[lg]at A;simp only[l7,uJ,Nat.reduceAdd,gP]at A;have dX:=Y.bo;have R:=Y.c2;have Q:=Y.c3;have hA:(0:Int)<=(k:Int):=z;have gU:(k:Int)<aQ.length:=z;have V:=G d;have uT:=G P;have jZ:=d.b.size;clear ab s Y lD d P cM lg;go_upto_region 13 with fail
   have pA:=G fun W=>awe N rH W z z
   go_region_held3 (fun aT=>aT.cell? ⟨bL,0,none⟩=some (.int .i64 N)/\aT.cell? ⟨bL,1,none⟩=some (.int .i64 0)/\aT.cell? ⟨w,6,none⟩=some (.slice (some ⟨cV,l',none⟩) aQ.length rc)/\aT.cell? ⟨cV,l'+k,none⟩=some (.slice (some ⟨i4,gC,none⟩) 2 ep)/\aT.cell? ⟨i4,gC+7+2,none⟩=some (.int .i64 rH)/\aT.cell? ⟨i4,gC+7+3,none⟩=some (.int .i64 0)) (first|exact⟨bP,B,U,A,R,Q⟩|exact⟨v0,S,T,v3,v4,v5⟩|exact⟨(rS z).trans v0,(rS z).trans S,(rS z).trans T,(rS z).trans v3,(rS z).trans v4,(rS z).trans v5⟩|go_keep) (first
    |(go_at_call 526;refine(pA.out _).mono ?_;rintro e f ⟨⟨hI,X0,rfl,ka,tU,tV,xh⟩,j⟩;obtain rfl:X0=0:=z;have a:β wr f:=((e4 wr _).drew).trans (j.mono ao);have hk:f.cell? ⟨wr,0,none⟩=some (.int .i64 0):=az j ao (ly (cW wr _) rfl);have b5:f.cell? ⟨wr,1,none⟩=some (.int .i64 0):=az j ao (ly (cW wr _) rfl);have eK:f.frozen? ⟨wr,0,none⟩=false:=rj j ao (cJ (cW wr _));have g0:f.frozen? ⟨wr,1,none⟩=false:=rj j ao (cJ (cW wr _));have v0:=az a l bP;have S:=az a l B;have T:=az a bZ U;have v3:=az a jm A;have v4:=az a E R;have v5:=az a E Q)
    |(go_at_call 526;refine(pA.out _).mono ?_;rintro e f ⟨⟨hI,X0,rfl,ka,tU,tV,xh⟩,j⟩;obtain rfl:X0=0:=z;have a:β wr f:=(lh wr).trans j;have v0:=az a l bP;have S:=az a l B;have T:=az a bZ U;have v3:=az a jm A;have v4:=az a E R;have v5:=az a E Q))
   all_goals first
    |(
     have s:=cW f (.cells #[.int .i64 hI,.int .i64 0] 38)
     have u:β wr (f.alloc (.cells #[.int .i64 hI,.int .i64 0] 38)):=a.alloc a.size _
     have hy:wr.heap.size<=f.heap.size:=a.size
     generalize f.alloc (.cells #[.int .i64 hI,.int .i64 0] 38)=w7 at*
     generalize f.heap.size=eo at*
     have ae:=az u l bP
     have Qs:=az u l B
     have C:=G (V.out.K u)
     have H:=G ((u.block _ l).trans uT.out)
     have FJ:=G s
     obtain⟨bo,c1⟩:=jV s
     obtain⟨hv,eD⟩:=jV C.out.l
     have hj:=bF s
     have Cw:=bF C.out.l
     have aa:hI.natAbs<=100:=z
     have mV:=G fun W=>aiE hI W aa
     clear bP B U A dX R Q bZ jm E v0 S T v3 v4 v5 a j pA
     go_wp2_with (go_at_call 532;refine(mV.out _).mono ?_;rintro e dc ⟨⟨c,rfl⟩,y⟩;have g:=G (C.out.K y);have o:=(y.block _ (bF H.out)).trans H.out;have L:=(y.block _ hj).trans FJ.out;obtain⟨dC,aj⟩:=jV L;obtain⟨t0,dI⟩:=jV o;obtain⟨cG,t3⟩:=mD o;have XZ:=G o;obtain⟨g3,di,dL,fN,gt,g4,g9⟩:=eX g.out.o;obtain⟨z0,cy,dz,z3,z4,z5,eO⟩:=he g.out.o;clear y o L)
     ·refine ki g.out.o ?_
      exact⟨e7.none _ _ _ 20 ak ak,iJ g.out.b z _ _ _ _ _ _ _⟩
     ·have K:=hT (i:=1) (hT (i:=0) XZ.out (.int .i64 hI)) (.int .i64 0)
      have I:=(g.out.set bL ph 0 (.int .i64 hI)).set bL ph 1 (.int .i64 0)
      go_roundw
      case rel=>first|exact⟨k+1,hI,z,bG,I,K,z⟩|((repeat apply Exists.intro);refine⟨?_,rfl⟩;exact⟨k+1,hI,z,bG,I,K,z⟩)
      case measure=>simp[RowKit.intOf];omega)
    |(
     have s:((f.setCell ⟨wr,0,none⟩ (.int .i64 hI)).setCell ⟨wr,1,none⟩ (.int .i64 0)).heap[wr.heap.size]? =some (.cells #[.int .i64 hI,.int .i64 0] 38 (0,0)):=(by simpa using hT (i:=1) (hT (i:=0) ((j.block wr ao).trans (cW wr (.cells #[.int .i64 0,.int .i64 0] 38))) (.int .i64 hI)) (.int .i64 0))
     have u:β wr ((f.setCell ⟨wr,0,none⟩ (.int .i64 hI)).setCell ⟨wr,1,none⟩ (.int .i64 0)):=(a.setCell (p:=⟨wr,0,none⟩) (aZ _) _).setCell (p:=⟨wr,1,none⟩) (aZ _) _
     generalize (f.setCell ⟨wr,0,none⟩ (.int .i64 hI)).setCell ⟨wr,1,none⟩ (.int .i64 0)=w7 at*
     have ae:=az u l bP
     have Qs:=az u l B
     have C:=G (V.out.K u)
     have H:=G ((u.block _ l).trans uT.out)
     have FJ:=G s
     obtain⟨bo,c1⟩:=jV s
     obtain⟨hv,eD⟩:=jV C.out.l
     have hj:=bF s
     have Cw:=bF C.out.l
     have aa:hI.natAbs<=100:=z
     have mV:=G fun W=>aiE hI W aa
     clear bP B U A dX R Q bZ jm E v0 S T v3 v4 v5 a j pA
     go_wp2_with (go_at_call 532;refine(mV.out _).mono ?_;rintro e dc ⟨⟨c,rfl⟩,y⟩;have g:=G (C.out.K y);have o:=(y.block _ (bF H.out)).trans H.out;have L:=(y.block _ hj).trans FJ.out;obtain⟨dC,aj⟩:=jV L;obtain⟨t0,dI⟩:=jV o;obtain⟨cG,t3⟩:=mD o;have XZ:=G o;obtain⟨g3,di,dL,fN,gt,g4,g9⟩:=eX g.out.o;obtain⟨z0,cy,dz,z3,z4,z5,eO⟩:=he g.out.o;clear y o L)
     ·refine ki g.out.o ?_
      exact⟨e7.none _ _ _ 20 ak ak,iJ g.out.b z _ _ _ _ _ _ _⟩
     ·have K:=hT (i:=1) (hT (i:=0) XZ.out (.int .i64 hI)) (.int .i64 0)
      have I:=(g.out.set bL ph 0 (.int .i64 hI)).set bL ph 1 (.int .i64 0)
      go_roundw
      case rel=>first|exact⟨k+1,hI,z,bG,I,K,z⟩|((repeat apply Exists.intro);refine⟨?_,rfl⟩;exact⟨k+1,hI,z,bG,I,K,z⟩)
      case measure=>simp[RowKit.intOf];omega)
  ·obtain rfl:k=aQ.length:=z;have V:=G d;obtain⟨g3,di,dL,fN,gt,g4,g9⟩:=eX d.o;obtain⟨z0,cy,dz,z3,z4,z5,eO⟩:=he d.o;have tY:e0 m (gD N ((0:Nat):Int)):=.gD N 0 ⟨ao,ao,z,z,.inl rfl⟩ (by
    have:10^3<=10^(2*m+1):=kO z z
    omega) z
   have Xb:=G tY;clear d P cm iN tY
   go_wp2;refine ki V.out.o ?_;exact⟨e7.some _ _ _ (aU.iW _ 1 _ 2 bO N 0 0 none 0 none 0) Xb.out,iJ V.out.b z _ _ _ _ _ _ _⟩
structure sh (base:Nat) (w wr:World) (v:Value) (l:List (List bC)):Prop where
 o:∃ss:List Value,ss.length=l.length/\wr.ownsRow base 36 1 v l.length ss/\∀j (H:j<ss.length) (I:j<l.length),∃a c,ss[j]=.slice a l[j].length c/\cz aV (aU aV 0) w a l[j]
theorem sh.nil(base:Nat)(w wr:World):sh base w wr (.slice none 0 0) []:=⟨[],rfl,mT _ _ _ _,fun j H=>by cases H⟩
theorem sh.ex{base:Nat}{l:List (List bC)}(h:sh base w wr v l)(a:eQ (fa base) wr w'):sh base w w' v l:=by
 obtain⟨c,H,I,b⟩:=h.o;exact⟨c,H,xA I a,b⟩
theorem sh.lt{base:Nat}{l:List (List bC)}(h:sh base w wr v l):∀g,v.ownBlock=some g->base<=g:=by
 obtain⟨i,H,I,c⟩:=h.o;exact fun g an=>by
  rcases I.2 with⟨b,_⟩|⟨j,cap,f,aj,a,d,e⟩
  subst b;simp[Value.ownBlock]at an;subst aj;simp[Value.ownBlock]at an;subst an;exact a
theorem sh.aQ{base:Nat}{l:List (List bC)}(h:sh base w wr v l)(A:β w wr)(k:l.length<=100):∃a c,v=.slice a l c/\hK aV (aU aV 0) wr a l:=by
 obtain⟨ss,H,I,d⟩:=h.o;have i:∃a c,v=.slice a l c:=by exact aoI
 obtain⟨a,c,rfl⟩:=i;refine⟨a,c,rfl,k,fun ae=>?_⟩;have qr:=I;rcases I.2 with⟨aM,b3⟩|⟨g,cap,ck,aj,aF,f,m,n,o,r⟩
 exact absurd b3 z
 ·injection aj with lU _ _
  refine⟨g,0,lU,g',bF f,fun j b=>?_⟩;obtain⟨p,q,e,ag⟩:=d j z b;refine⟨p,q,?_,cz.K (aU.mono aV 0) ag A⟩;exact aoy
theorem sh.push{base:Nat}{w w7:World}{l:List (List bC)}{ss:List Value}(e:ss.length=l.length)(f:∀j (H:j<ss.length) (I:j<l.length),∃a c,ss[j]=.slice a l[j].length c/\cz aV (aU aV 0) w a l[j]){a:Option Addr}{u:List bC}{c:Nat}(i:cz aV (aU aV 0) w a u){g cap:Nat} (k:w7.ownsRow base 36 1 (.slice (some ⟨g,0,none⟩) (l.length+1) cap) (l.length+1) (ss++[.slice a u.length c])):sh base w w7 (.slice (some ⟨g,0,none⟩) (l.length+1) cap) (l++[u]):=by
 refine⟨ss++[.slice a u.length c],by simp[e],by simpa using k,fun j a' m=>?_⟩;by_cases d:j<ss.length
 ·have b:j<l.length:=z;rw[xW d,xW b];exact f j d b
 ·have b:¬j<l.length:=z;rw[xX z,xX z];simp only[LP];exact⟨a,c,rfl,i⟩
structure zV (w:World) (F aI:Array Value) (wr:World):Prop where
 b:β w wr
 g:wr.heap[w.heap.size]? =some (.cells F 42 (0,0))
 l:wr.heap[w.heap.size+1]? =some (.cells aI 42 (0,0))
 o:wr.heap[w.heap.size+1+1]? =some (.cells fh 42 (0,0))
theorem zV.K{a:Array Value}(h:zV w F a wr)(A:β wr w'):zV w F a w':=
 ⟨cj h.b A,by rw[A.block _ (bF h.g)];exact h.g,by rw[A.block _ (bF h.l)];exact h.l,by rw[A.block _ (bF h.o)];exact h.o⟩
theorem zV.hN{a:Array Value}(h:zV w F a wr)(A:Below (w.heap.size+3) wr w'):zV w F a w':=
 ⟨h.b.trans (A.mono z),by rw[A.block _ z];exact h.g,by rw[A.block _ z];exact h.l,by rw[A.block _ z];exact h.o⟩
theorem zV.start(w:World)(F a:Array Value):zV w F a (((w.alloc (.cells F 42)).alloc (.cells a 42)).alloc (.cells fh 42)):=by
 obtain⟨H,I,c,b⟩:=QL w (.cells F 42) (.cells a 42) (.cells fh 42);exact⟨H,I,c,b⟩
theorem aLy{m n:Nat}(aQ:List (List bC))(J:e0 n (hS aQ))(w:World)(F:Array Value)(h:aU aV 1 w F (hS aQ))(aI:Array Value)(u:bC)(hu:aU aV 1 w aI u): χ 521 #[.agg F,li,.agg aI] w (e7 w m):=by
 have AD:aQ.length<=3/\∀r∈aQ,tp r:=by cases J with|hS _ ah h=>exact⟨ah,h⟩
 have bl:=G fun W (L:β w W)=>amX aQ J W F (h.K L);obtain⟨ca,cc,ra,rc,rfl,gb,qz⟩:=h;have x8:=G hu;obtain⟨V,Q,S,T,CK,U,Y⟩:=u;obtain⟨rt,ru,l4,rv,rfl,_⟩:=hu.gX;have fR:=G (zV.start w (bM 5 bO 0 0 0 ca 2 cc ra aQ.length rc) (bM V Q S T CK rt U.length ru l4 Y.length rv));have bH:=G fun W (L:β w W)=>abM W ca cc [li,k5] li (gb.K L);have ag:=G gb;have iN:=G qz.2;have cm:=G (fun i (hi:i<aQ.length)=>AD.2 _ (fP hi));have ah:=AD.1;clear J gb qz AD hu;obtain⟨Pn,OT,ng,ii,oO⟩:=im Ps;go_enter func521,ntmps521;go_upto_region 1 with fail
 generalize (((w.alloc (.cells (bM 5 bO 0 0 0 ca 2 cc ra aQ.length rc) 42)).alloc (.cells (bM V Q S T CK rt U.length ru l4 Y.length rv) 42)).alloc (.cells fh 42))=am at fR⊢;have d:=fR.out;obtain⟨eN,dv,dy,gj,hF,hQ,i8⟩:=eX d.g;have gZ:=bF d.g;have aS:=d.b;clear d;go_upto_region 4 with(go_at_call 558;refine(bl.out _ aS).mono ?_;rintro e I ⟨rfl,bp⟩)
 have K:=G (fR.out.K bp);have l2:=aK 5 K.out.g;have bZ:=bF K.out.g;have bf:=K.out.b;clear eN dv dy gj hF hQ i8 gZ fR aS bp;go_upto_region 7 with(go_at_call 556;refine(bH.out _ bf).mono ?_;rintro e bX ⟨⟨x,rfl,an⟩,rfl⟩;obtain rfl:=axw an)
 have lQ:=G (K.out.K (e4 I (.cells (bM 5 bO 0 0 0 ca 2 cc none 0 0) 42)));have yK:=cW I (.cells (bM 5 bO 0 0 0 ca 2 cc none 0 0) 42);have ph:w.heap.size+3<=I.heap.size:=bF K.out.o;have r4:=i_ I (.cells (bM 5 bO 0 0 0 ca 2 cc none 0 0) 42)
 go_wp2;clear l2 bZ bl bH K bf;generalize pN:I.heap.size=bL at*;generalize (I.alloc (.cells (bM 5 bO 0 0 0 ca 2 cc none 0 0) 42))=bn at*;go_loopw [11] (fun i wr=>∃(k:Nat) (l:List (List bC)) (c3:Option Addr) (c4:Nat),k<=aQ.length/\i=.int .i64 k/\zV w (bM 5 bO 0 0 0 ca 2 cc ra aQ.length rc) (bM V Q S T CK rt U.length ru l4 Y.length rv) wr/\wr.heap[bL]? =some (.cells (bM 5 bO 0 0 0 ca 2 cc c3 l.length c4) 42 (0,0))/\sh (bL+1) w wr (.slice c3 l.length c4) l/\l.length<=k/\(∀r∈l,tp r)/\bL+1<=wr.heap.size) (fun i _=>aQ.length-(RowKit.intOf i).toNat);case atStart=>exact⟨0,[],none,0,dx _,rfl,lQ.out,yK,sh.nil _ _ _,ao,ao,z⟩
 case round=>
  clear lQ yK;obtain⟨k,l,c3,c4,aH,rfl,d,M,Z,aJ,N,dT⟩:=hrel;have ll:=aK 6 d.g;have bZ:=bF d.g;by_cases au:k<aQ.length
  ·obtain⟨cV,l',rfl,_,jm,lD⟩:=iN.out z;obtain⟨dD,ep,s0,aa⟩:=lD k au;obtain⟨gw,rH,i4,gC,jj,jk,i0,js,gJ,gK,gu,gv,lg,cM,aN,Cb,rfl,o,s,J1⟩:=aq2 aa (cm.out k au);have aB:=G aa;have aA:=G (cm.out k au);have t_:(aQ[k]).length=2:=by rw[lg];rfl
   rw[t_]at s0;have f:=d.b;have aC:=az f jm s0;have dX:=az f o s.bo;have dl:=az f o s.c1;have dE:=az f o s.c2;have cH:=az f o s.c3;have ja:=az f o s.c4;have jS:=az f o s.c5;have lK:=az f o s.fe;have al:=cS f jm;have ap:=cS f o;obtain⟨u0,u1,u2,u3,u4,u5,u6⟩:=eX d.l;have cp:=bF d.l;have hA:(0:Int)<=(k:Int):=z;have gU:(k:Int)<aQ.length:=z;have O:=G d;have uT:=G M;have BB:=G Z;have L7:=G fun W (L:β w W)=>abU 0 1 W (bM 1 gw 0 0 0 jj 0 jk i0 0 js) (bM V Q S T CK rt U.length ru l4 Y.length rv) (hG gw) _ (aU.iW aV 0 W 1 gw 0 0 0 jj jk i0 js) (x8.out.K L);clear aa s J1 lD d M Z cM;generalize aQ[k]=row at*
   go_wp2;go_still_tail 9,av;change wpList _ _ _ _ _ wr.drew;have tS:β w wr.drew:=f.drew;have ae:β wr wr.drew:=(br _ _).drew;have y:=G (O.out.K ae);have yw:Hid (wr.drew.heap[bL]? =some (.cells (bM 5 bO 0 0 0 ca 2 cc c3 l.length c4) 42 (0,0))):=G uT.out;have Oh:=G (BB.out.ex (w':=wr.drew) (.hP ae));have af:bL+1<=wr.drew.heap.size:=dT;have yJ:wr.drew.cell? ⟨cV,l'+k,none⟩=some (.slice (some ⟨i4,gC,none⟩) 2 ep):=aC;have ad:cV<wr.drew.heap.size:=al;clear aC s0 al ll bZ dT O uT BB ae;generalize wr.drew=a_ at*
   go_wp2_with (go_at_call 557;refine(L7.out _ tS).mono ?_;rintro e j ⟨⟨xF,rfl⟩,B⟩;have D:=G (y.out.K B);have C:=G ((B.block _ (bF yw.out)).trans yw.out);have E:=G (Oh.out.ex (.hP B));have R:bL+1<=j.heap.size:=cO af B.size;have Ua:=az B ad yJ;have ax:=cS B ad;clear B;cases xF)
   ·go_roundw;case rel=>first|exact⟨k+1,l,c3,c4,z,bG,D.out,C.out,E.out,z,N,R⟩|((repeat apply Exists.intro);refine⟨?_,rfl⟩;exact⟨k+1,l,c3,c4,z,bG,D.out,C.out,E.out,z,N,R⟩)
    case measure=>simp[RowKit.intOf];omega
   ·obtain⟨ss,Co,yL,G6⟩:=E.out.o;have ll:=aK 6 D.out.g;have bZ:=bF D.out.g;have oW:=aK 6 C.out;have hf:=kg 6 C.out;have hz:=bF C.out;have BC:Hid (some bL≠(Value.slice c3 l.length c4).ownBlock):=G fun e=>by have:=E.out.lt _ e.symm;omega
    have iC:=G yL;clear dX dl dE cH ja jS lK u0 u1 u2 u3 u4 u5 u6 cp o ap y yw Oh af yJ ad f tS yL;try go_wp2
    go_region_law (first
     |(refine LJ _ (by rfl) _ _ _ (by rfl) (bL+1) 36 Pn _ 1 24 Rb OT ng ii oO rfl ak (.slice c3 l.length c4) l.length ss (by rfl) ((xA iC.out (.hP (lh j))).alloc _) ⟨j,0,none⟩ 1 1 [.slice (some ⟨i4,gC,none⟩) 2 ep] (by rfl) (by rfl) (rA (cs:=#[.slice (some ⟨i4,gC,none⟩) 2 ep]) (t:=36) (fr:=(0,0)) (px j.drew _)) (by simp[Value.oneCell']) ak (by unfold maxLen;omega) z bz (j.heap.size+1) ao ?_;intro g cap w7 cX lb fv T2;have Hc:w7.cell? ⟨bL,6,none⟩=some (.slice c3 l.length c4):=(lb.cell_far ⟨bL,6,none⟩ bz BC.out).trans ((((e4 j _).drew).cell (p:=⟨bL,6,none⟩) hz).trans oW);have f7:w7.frozen? ⟨bL,6,none⟩=false:=(lb.frozen_far ⟨bL,6,none⟩ bz BC.out).trans ((((e4 j _).drew).frozen (p:=⟨bL,6,none⟩) hz).trans hf);have P:Below (bL+1) j w7:=((((br (bL+1) j).alloc R _).drew).grown lb bz (fun b A=>E.out.lt b A))))
    all_goals(
     have OA:=G (D.out.hN (P.mono z))
     have Ov:Hid (w7.heap[bL]? =some (.cells (bM 5 bO 0 0 0 ca 2 cc c3 l.length c4) 42 (0,0))):=G ((P.block bL z).trans C.out)
     have aD:=G (sh.push (base:=bL+1) (w:=w) (w7:=w7) Co G6 (a:=some ⟨i4,gC,none⟩) (u:=row) (c:=ep) aB.out (g:=g) (cap:=cap) (by rw[t_];exact cX))
     have xq:bL+1<=w7.heap.size:=cO R P.size
     clear cX lb fv oW hf ll bZ Ua ax E C D iC BC L7 P
     go_wp2
     have Cc:(w7.setCell ⟨bL,6,none⟩ (.slice (some ⟨g,0,none⟩) (l.length+1) cap)).heap[bL]? =some (.cells (bM 5 bO 0 0 0 ca 2 cc (some ⟨g,0,none⟩) (l++[row]).length cap) 42 (0,0)):=by
      have:=hT (i:=6) Ov.out (.slice (some ⟨g,0,none⟩) (l.length+1) cap)
      simpa using this
     have DR:=OA.out.hN ((br (w.heap.size+3) w7).setCell (p:=⟨bL,6,none⟩) ph (.slice (some ⟨g,0,none⟩) (l.length+1) cap))
     have aE:sh (bL+1) w (w7.setCell ⟨bL,6,none⟩ (.slice (some ⟨g,0,none⟩) (l.length+1) cap)) (.slice (some ⟨g,0,none⟩) (l++[row]).length cap) (l++[row]):=by
      have:=aD.out.ex ((eQ.refl _ w7).set (r:=bL) (fun(A:bL+1<=bL)=>z) 6 (.slice (some ⟨g,0,none⟩) (l.length+1) cap))
      simpa using this
     have ay:∀r∈l++[row],tp r:=fun r ab=>by
      rcases lo.1 ab with H|H
      ·exact N r H
      ·rw[o0.1 H];exact aA.out
     have yO:bL+1<=(w7.setCell ⟨bL,6,none⟩ (.slice (some ⟨g,0,none⟩) (l.length+1) cap)).heap.size:=by simpa using xq
     exact⟨⟨k+1,l++[row],some ⟨g,0,none⟩,cap,z,bG,DR,Cc,aE,bz,ay,yO⟩,by simp[RowKit.intOf];omega⟩)
  ·obtain rfl:k=aQ.length:=z;have A:=d.b;obtain⟨a',fd,cg,du⟩:=Z.aQ A z;injection cg with aj aF bq
   subst aj;subst bq;have eu:aU aV 1 wr (bM 5 bO 0 0 0 ca 2 cc c3 l.length c4) (hS l):=⟨_,_,_,_,rfl,ag.out.K A,du⟩;have mV:=G (ND 0 wr _ _ eu);have Xb:Hid (e0 m (hS l)):=G (.hS l z N);obtain⟨fI,dN,dk,dp,ov,xO,oW⟩:=eX M;have iy:=bF M;have O:=G d;clear d M Z du eu N iN cm ag x8
   go_wp2_with (go_at_call 466;refine(mV.out).mono ?_;rintro e a_ ⟨⟨aL,rfl,Cr⟩,bD⟩;obtain⟨aG,bB,pb,vQ,rfl,Pk,G8⟩:=Cr;have ai:=G (And.intro Pk G8);clear Pk G8;have y:=O.out.K bD;obtain⟨g3,di,dL,fN,gt,g4,g9⟩:=eX y.o;obtain⟨z0,cy,dz,z3,z4,z5,eO⟩:=he y.o);refine ki y.o ?_;refine⟨e7.some _ _ _ (v:=hS l) ?_ Xb.out,iJ y.b z _ _ _ _ _ _ _⟩;have aM:=A.size;have aw:aU (fa wr) 1 a_ (bM 5 bO 0 0 0 aG 2 bB pb l.length vQ) (hS l):=⟨aG,bB,pb,vQ,rfl,ai.out.1,ai.out.2⟩;have:=bF O.out.o;exact(aw.ex (K6 (eQ.refl _ a_) (fun(A:wr.heap.size<=w.heap.size+1+1)=>z) _ _ _ _ _ _ _)).low fun b (A:wr.heap.size<=b)=>(show w.heap.size<=b by omega)
abbrev eV(a:Option Addr)(e c:Nat)(k n dB ds:Int)(aG:Option Addr)(d b:Nat):Array Value:=#[.slice a e c,.int .i64 k,.int .i64 n,.int .i64 dB,.int .i64 ds,.slice aG d b]
variable{a:Option Addr}{f d:Int}
theorem Jr{g l m i b4 c:Int}{bP e:ByteArray}(h:cz aV (aU aV 1) w a [.mk g bP l m i [] [],.mk b4 e c f d [] []]):∃b o,a=some ⟨b,o,none⟩/\b<w.heap.size/\(∃ca cc ra rc,u_ w b o g (.string bP) l m i (.slice ca 0 cc) (.slice ra 0 rc))/\∃ca cc ra rc,u_ w b (o+7) b4 (.string e) c f d (.slice ca 0 cc) (.slice ra 0 rc):=by
 obtain⟨s,q,rfl,_,t,n⟩:=h.2 ao;obtain⟨O,J,L,N,ov,V,z,W,T,C,X,u,j⟩:=n 0 ao;obtain⟨K,M,I,H,U,P,Y,Q,R,Z,S,r,k⟩:=n 1 ao;obtain⟨x,y,A,B,dC,_⟩:=u;obtain⟨D,E,F,G,aj,_⟩:=r;injection dC with dC
 injection aj with aj
 simp only[p7,Iv,Iw,Fm,Fy,Bt]at dC aj;obtain⟨rfl,rfl,rfl,rfl,rfl,⟨rfl,rfl,rfl⟩,rfl,rfl,rfl⟩:=dC;obtain⟨rfl,rfl,rfl,rfl,rfl,⟨rfl,rfl,rfl⟩,rfl,rfl,rfl⟩:=aj;simp only[uL,h7,Rv,uJ]at j k;exact⟨s,q,rfl,t,⟨_,_,_,_,j⟩,_,_,_,_,k⟩
theorem M8{c g:Int}{bP:ByteArray}(h:cz aV (aU aV 1) w a [.mk c bP f g d [] []]):∃b o,a=some ⟨b,o,none⟩/\b<w.heap.size/\∃ca cc ra rc,u_ w b o c (.string bP) f g d (.slice ca 0 cc) (.slice ra 0 rc):=by
 obtain⟨j,i,rfl,_,k,m⟩:=h.2 ao;obtain⟨A,x,y,z,F,C,r,D,B,u,E,l,e⟩:=m 0 ao;obtain⟨n,q,s,t,dC,_⟩:=l;injection dC with dC
 simp only[p7,Iv,Iw,Fm,Fy,Bt]at dC;obtain⟨rfl,rfl,rfl,rfl,rfl,⟨rfl,rfl,rfl⟩,rfl,rfl,rfl⟩:=dC;simp only[uL,h7,uJ]at e;exact⟨j,i,rfl,k,_,_,_,_,e⟩
theorem e_{u0 u1 u2 u3 u4 u5 u6:Value}(h:c≠b):(A1 w c u0 u1 u2 u3 u4 u5 u6).cell? ⟨b,i,none⟩=w.cell? ⟨b,i,none⟩:=by
 rw[uG _ _ _ _ h,uG _ _ _ _ h,uG _ _ _ _ h,uG _ _ _ _ h,uG _ _ _ _ h,uG _ _ _ _ h,uG _ _ _ _ h]
structure k4 (w:World) (F:Array Value) (t:Nat) (wr:World):Prop where
 b:β w wr
 g:wr.heap[w.heap.size]? =some (.cells F t (0,0))
 o:wr.heap[w.heap.size+1]? =some (.cells fh 42 (0,0))
variable{t:Nat}
theorem k4.K(h:k4 w F t wr)(A:β wr w'):k4 w F t w':=
 ⟨cj h.b A,by rw[A.block _ (bF h.g)];exact h.g,by rw[A.block _ (bF h.o)];exact h.o⟩
theorem k4.start(w:World)(F:Array Value)(t:Nat):k4 w F t ((w.alloc (.cells F t)).alloc (.cells fh 42)):=by
 have T:=lm w (.cells F t) (.cells fh 42);exact⟨T.h,T.p,T.q⟩
theorem aFl(E:Option Addr)(P F:Nat)(O fn dB ds:Int)(K:Option Addr)(f' L:Nat)(aG:ByteArray)(m:Nat)(i l:Int)(d f:Nat)(w:World)(R:Option Addr)(ac:Nat)(h:cz aV (aU aV 1) w R [gD i d,gD l f])(M X u:Nat)(H:hn i d)(I:hn l f)(fl:M=max d f)(ig:M<=3)(Z:X=i.natAbs*10^(M-d))(fF:u=l.natAbs*10^(M-f))(V:X+u<=1000000000000000)(T:∀(N:Int) (S:Nat),hn N S->N.natAbs<=X+u->S<=M->e0 m (gD N S)): χ 476 #[.string ⟨#[97,100,100]⟩,aG,.agg (eV E P F O fn dB ds K f' L),.slice R 2 ac] w (e7 w m):=by
 have NU:((⟨#[97,100,100]⟩:ByteArray).toList==(⟨#[112,114,105,110,116]⟩:ByteArray).toList)=false:=fS ak;have w8:((⟨#[97,100,100]⟩:ByteArray).toList==(⟨#[97,100,100]⟩:ByteArray).toList)=true:=q0 _;have bl:=G fun W=>ah4 i l d f M W H I fl ig X u Z fF V;have bH:=G fun N S W=>adk N S W;have cm:=G T;obtain⟨b,o,rfl,A,⟨ca,cc,ra,rc,ae⟩,iE,iS,kJ,kh,H⟩:=Jr h;have D:=G (k4.start w (eV E P F O fn dB ds K f' L) 249);clear h T;go_enter LB,LC
 go_wp2;generalize ((w.alloc (.cells (eV E P F O fn dB ds K f' L) 249)).alloc (.cells fh 42))=g at D⊢;have c:=D.out.b;have iX:=cS c A;have c2:=az c A ae.c2;have c3:=az c A ae.c3;have J:=az c A H.c2;have Q:=az c A H.c3;clear ae H;have B:w.heap.size+1≠b:=z;have q1:g.drew.cell? ⟨b,o+2,none⟩=_:=c2;have w0:g.drew.cell? ⟨b,o+3,none⟩=_:=c3;have U:g.drew.cell? ⟨b,o+7+2,none⟩=_:=J;have Y:g.drew.cell? ⟨b,o+7+3,none⟩=_:=Q;have n:=G iX;have sn:=G (D.out.K (lh g));clear c A
 go_region_held3 (fun aT=>aT.cell? ⟨b,o+2,none⟩=some (.int .i64 i)/\aT.cell? ⟨b,o+3,none⟩=some (.int .i64 d)/\aT.cell? ⟨b,o+7+2,none⟩=some (.int .i64 l)/\aT.cell? ⟨b,o+7+3,none⟩=some (.int .i64 f)) (first|with_reducible exact⟨c2,c3,J,Q⟩|with_reducible exact⟨q1,w0,U,Y⟩|with_reducible exact⟨x,y,t,s⟩|with_reducible exact⟨(e_ B).trans x,(e_ B).trans y,(e_ B).trans t,(e_ B).trans s⟩|go_keep) (first|(go_at_call 526;refine(bl.out _).mono ?_;rintro e bX ⟨⟨N,S,rfl,ka,tU,tV,xh⟩,a⟩;have hZ:=G (sn.out.K a);have x:=az a n.out c2;have y:=az a n.out c3;have t:=az a n.out J;have s:=az a n.out Q;have C:=cS a n.out;clear a)|(go_at_call 525;refine(bH.out _ _ _).mono ?_;rintro e bn ⟨rfl,j⟩;have em:=hZ.out.K j;have x:=az j C x;have y:=az j C y;have t:=az j C t;have s:=az j C s;obtain⟨g3,di,dL,fN,gt,g4,g9⟩:=eX em.o;obtain⟨z0,cy,dz,z3,z4,z5,eO⟩:=he em.o))
 exact acr
theorem aFp(D:Option Addr)(O E:Nat)(L fn dB ds:Int)(J:Option Addr)(f' K:Nat)(aG:ByteArray)(m:Nat)(a d:Int)(g i:Nat)(w:World)(Q:Option Addr)(ac:Nat)(h:cz aV (aU aV 1) w Q [gD a g,gD d i])(M:Nat)(fl:M=g+i)(H:hn a g)(I:hn d i)(ig:g+i<=3)(Y:a.natAbs<16777216)(Z:d.natAbs<2147483648)(U:a.natAbs*d.natAbs<=1000000000000000)(R:∀(N:Int) (S:Nat),hn N S->N.natAbs<=a.natAbs*d.natAbs->S<=M->e0 m (gD N S)): χ 476 #[.string ⟨#[109,117,108]⟩,aG,.agg (eV D O E L fn dB ds J f' K),.slice Q 2 ac] w (e7 w m):=by
 have NU:((⟨#[109,117,108]⟩:ByteArray).toList==(⟨#[112,114,105,110,116]⟩:ByteArray).toList)=false:=fS ak;have S1:((⟨#[109,117,108]⟩:ByteArray).toList==(⟨#[97,100,100]⟩:ByteArray).toList)=false:=fS ak;have S2:((⟨#[109,117,108]⟩:ByteArray).toList==(⟨#[115,117,98]⟩:ByteArray).toList)=false:=fS ak;have w8:((⟨#[109,117,108]⟩:ByteArray).toList==(⟨#[109,117,108]⟩:ByteArray).toList)=true:=q0 _;have bl:=G fun W=>aES a d g i M W fl H I ig Y Z U;have bH:=G fun N S W=>adk N S W;have cm:=G R;obtain⟨b,o,rfl,A,⟨ca,cc,ra,rc,ae⟩,iE,iS,kJ,kh,H⟩:=Jr h;have C:=G (k4.start w (eV D O E L fn dB ds J f' K) 249);clear h R;go_enter LB,LC
 go_wp2;generalize ((w.alloc (.cells (eV D O E L fn dB ds J f' K) 249)).alloc (.cells fh 42))=j at C⊢;have f:=C.out.b;have iX:=cS f A;have c2:=az f A ae.c2;have c3:=az f A ae.c3;have F:=az f A H.c2;have P:=az f A H.c3;clear ae H;have y:w.heap.size+1≠b:=z;have q1:j.drew.cell? ⟨b,o+2,none⟩=_:=c2;have w0:j.drew.cell? ⟨b,o+3,none⟩=_:=c3;have T:j.drew.cell? ⟨b,o+7+2,none⟩=_:=F;have V:j.drew.cell? ⟨b,o+7+3,none⟩=_:=P;have n:=G iX;have sn:=G (C.out.K (lh j));clear f A
 go_region_held3 (fun aT=>aT.cell? ⟨b,o+2,none⟩=some (.int .i64 a)/\aT.cell? ⟨b,o+3,none⟩=some (.int .i64 g)/\aT.cell? ⟨b,o+7+2,none⟩=some (.int .i64 d)/\aT.cell? ⟨b,o+7+3,none⟩=some (.int .i64 i)) (first|with_reducible exact⟨c2,c3,F,P⟩|with_reducible exact⟨q1,w0,T,V⟩|with_reducible exact⟨u,x,t,s⟩|with_reducible exact⟨(e_ y).trans u,(e_ y).trans x,(e_ y).trans t,(e_ y).trans s⟩|go_keep) (first|(go_at_call 528;refine(bl.out _).mono ?_;rintro e bX ⟨⟨N,S,rfl,ka,tU,tV,xh⟩,c⟩;have hZ:=G (sn.out.K c);have u:=az c n.out c2;have x:=az c n.out c3;have t:=az c n.out F;have s:=az c n.out P;have B:=cS c n.out;clear c)|(go_at_call 525;refine(bH.out _ _ _).mono ?_;rintro e bn ⟨rfl,l⟩;have em:=hZ.out.K l;have u:=az l B u;have x:=az l B x;have t:=az l B t;have s:=az l B s;obtain⟨g3,di,dL,fN,gt,g4,g9⟩:=eX em.o;obtain⟨z0,cy,dz,z3,z4,z5,eO⟩:=he em.o))
 exact acr
theorem k4.arq(h:k4 w F t wr)(i:Nat)(u:Value):k4 w (F.setIfInBounds i u) t (wr.setCell ⟨w,i,none⟩ u):=
 ⟨h.b.setCell (p:=⟨w,i,none⟩) (aZ _) u,hT h.g u,(g_ _ _ _ _ (by show w.heap.size+1≠w.heap.size;omega)).trans h.o⟩
variable{w7:World}
theorem k4.grown{c:World}(h:k4 w F t c){row:Option Nat}(an:(c.alloc o).grownBy w7 row)(a:∀b,row=some b->w.heap.size+2<=b):k4 w F t w7:=by
 have H:=h.K ((br _ _).alloc (aZ _) o);refine⟨(H.b).grown an (by have:=h.b.size;simp;omega) (fun b A=>by have:=a b A;omega),?_,?_⟩;rw[an.block _ (bF H.g) (fun e=>by have:=a _ e.symm;omega)];exact H.g;rw[an.block _ (bF H.o) (fun e=>by have:=a _ e.symm;omega)];exact H.o
theorem aEP(n:Nat)(h:n<=100)(W:World):(Instr.makeSlice 40 (.int .i64 0) n).run prog W=.ok (.slice (some ⟨W,0,none⟩) 0 n) (W.alloc (.cells (madeCells #[Value.slice none 0 0] n) 36)):=by
 obtain⟨i,hi,ae,H,I⟩:=im Ps;have:=run_make (P:=prog) W 40 36 i _ Rb hi ae .i64 .i64 0 n ak z (by rw[I];omega) z;rw[H]at this;simp only[Rj,tm]at this;exact this
theorem aEQ(n:Nat)(h:n<=100)(W:World):(Instr.makeSlice 36 (.int .i64 0) n).run prog W=.ok (.slice (some ⟨W,0,none⟩) 0 n) (W.alloc (.cells (madeCells fh (n*7)) 42)):=by
 obtain⟨i,hi,ae,H,I⟩:=im abQ;have:=run_make (P:=prog) W 36 42 i _ underlying36 hi ae .i64 .i64 0 n ak z (by rw[I];omega) z;rw[H]at this;simp only[Rj,tm]at this;exact this
theorem je.PM(base d n:Nat)(h:n<=100)(W:World)(A:base<=W.heap.size):je base d (W.alloc (.cells (madeCells #[Value.slice none 0 0] n) 36)) (.slice (some ⟨W,0,none⟩) 0 n) []:=⟨[],rfl,World.ownsRow_made W _ n A (by unfold maxLen;omega) (by rw[size_madeCells];try omega),fun j H=>by cases H⟩
theorem kQ.PM(base d n:Nat)(h:n<=100)(W:World)(A:base<=W.heap.size):kQ base d (W.alloc (.cells (madeCells fh (n*7)) 42)) (.slice (some ⟨W,0,none⟩) 0 n) []:=⟨[],rfl,World.ownsRow_made W _ n A (by unfold maxLen;omega) (by rw[size_madeCells];try omega),fun j H=>by cases H⟩
theorem ai0(d:Nat)(k:Int)(s:ByteArray)(N S n:Int)(cs:List ByteArray)(aQ:List (List bC))(zG:0<aQ.length->∀(w:World) (F:Array Value) (v:bC),aU aV d w F v->χ 50 #[.agg F] w (uZ d w v)) (w:World)(F:Array Value)(h:aU aV (d+1) w F (.mk k s N S n cs aQ)):χ 50 #[.agg F] w (uZ (d+1) w (.mk k s N S n cs aQ)):=by
 obtain⟨ca,cc,ra,rc,rfl,gb,qz⟩:=h;have C:=G (k4.start w (bM k s N S n ca cs cc ra aQ rc) 42);have mV:=G fun W (O:β w W)=>axo W ca cc cs (gb.K O);obtain⟨ap,av,KA,G7,yN⟩:=im abQ;obtain⟨Pn,OT,ng,ii,oO⟩:=im Ps;go_enter func50,ntmps50;go_upto_region 1 with fail
 generalize ((w.alloc (.cells (bM k s N S n ca cs cc ra aQ rc) 42)).alloc (.cells fh 42))=m at C⊢;have hr:m.cell? ⟨w,5,none⟩=some (.slice ca cs cc):=aK 5 C.out.g;have iB:=G (mV.out m C.out.b);have f5:=kg 5 C.out.g;have bZ:=bF C.out.g;clear mV gb;go_upto_region 2 with(go_at_call 132;(with_reducible refine iB.out.mono ?_);rintro e E ⟨⟨c1,c2,rfl,iH⟩,bp⟩;have j3:=G (C.out.K bp);have uS:=G iH;have Cv:E.cell? ⟨w,5,none⟩=some (.slice ca cs cc):=aK 5 j3.out.g;have z5:=kg 5 j3.out.g)
 have hZ:k4 w (bM k s N S n c1 cs c2 ra aQ rc) 42 (E.setCell ⟨w,5,none⟩ (.slice c1 cs c2)):=j3.out.arq 5 _;have nd:=bp.size;have Dq:hc (fa m) (E.setCell ⟨w,5,none⟩ (.slice c1 cs c2)) c1 cs:=uS.out.ex ((eQ.refl _ E).set (by show ¬(m.heap.size<=w.heap.size);omega) 5 _);have KC:m.heap.size<=(E.setCell ⟨w,5,none⟩ (.slice c1 cs c2)).heap.size:=by simpa using nd
 have kb:w.heap.size+2<=m.heap.size:=bF C.out.o;have hp:=G hZ;have MX:=G Dq;clear bp iH j3 uS Cv z5 hZ Dq iB hr f5 C nd;generalize (E.setCell ⟨w,5,none⟩ (.slice c1 cs c2))=o at*;have R:o.cell? ⟨w,6,none⟩=some (.slice ra aQ rc):=aK 6 hp.out.g;have JZ:=qz.1;have hA:(aQ.length:Int)<=100:=z;have pR:=aEP aQ JZ o;have i3:=G (hp.out.K ((br _ _).alloc (aZ _) (.cells (madeCells #[Value.slice none 0 0] aQ.length) 36)));have Dr:=G (MX.out.lt.K ((br _ _).alloc (aZ _) (.cells (madeCells #[Value.slice none 0 0] aQ.length) 36)));have WU:=G (je.PM o d aQ JZ o (aZ _));have ae:o.heap.size<=(o.alloc (.cells (madeCells #[Value.slice none 0 0] aQ.length) 36)).heap.size:=ao;go_upto_region 3 with fail
 clear pR R hp MX;generalize (o.alloc (.cells (madeCells #[Value.slice none 0 0] aQ.length) 36))=a_ at*;have R:a_.cell? ⟨w,6,none⟩=some (.slice ra aQ rc):=aK 6 i3.out.g;generalize (Value.slice (some ⟨o,0,none⟩) 0 aQ)=v5 at*;obtain⟨B,Oc⟩:∃B,B=o.heap.size:=⟨_,rfl⟩;rw[←Oc]at Dr WU ae;have af:m.heap.size<=B:=z;clear Oc KC;have iN:=G (fun W (O:β w W)=>(hK.K (aU.mono aV d) qz O).2);have jH:=G zG;clear qz zG
 go_wp2;go_loopw [3,20] (fun v i wr=>∃j:Nat,j<=aQ.length/\i=.int .i64 j/\je B d wr v (aQ.take j)/\k4 w (bM k s N S n c1 cs c2 ra aQ rc) 42 wr/\hc (fun b=>fa m b/\b<B) wr c1 cs/\B<=wr.heap.size) (fun _ i _=>aQ.length-(RowKit.intOf i).toNat);case atStart=>exact⟨0,dx _,rfl,WU.out,i3.out,Dr.out,ae⟩
 case round=>
  clear i3 Dr WU R ae;obtain⟨j,aa,rfl,L,q,Z,Od⟩:=hrel;obtain⟨va,D,s5⟩:=L.gX;have vA:(aQ.take j).length=j:=by rw[nu];omega
  rw[vA]at s5;subst s5;by_cases au:j<aQ
  ·obtain⟨dR,eM,rfl,_,jl,jw⟩:=iN.out _ q.b z;obtain⟨dD,ep,aC,ad⟩:=jw j au;have Pb:=ad.1;have lP:=G (fun W (O:β wr W)=>(cz.K (aU.mono aV d) ad O).2);have ai:=G (jH.out z);have M:=G L;have aL:=G q;have ip:=G Z;have eH:Hid (aQ.take (j+1)=aQ.take j++[aQ[j]]):=G (p9 au);have uP:=G vA;have ei:(0:Int)<=(j:Int):=z;have jq:(j:Int)<aQ.length:=z;clear jw ad L q Z vA;generalize aQ[j]=row at*;have gU:(row.length:Int)<=8:=z;have pR:=aEQ row z wr;have WV:=G (kQ.PM wr d row z wr (aZ _));have gy:=G (e4 wr (.cells (madeCells fh (row.length*7)) 42));go_upto_region 7 with fail
   clear pR aC;generalize (wr.alloc (.cells (madeCells fh (row.length*7)) 42))=bi at*;generalize (Value.slice (some ⟨wr,0,none⟩) 0 row)=g1 at*;obtain⟨K,ah⟩:∃K,K=wr:=⟨_,rfl⟩;rw[←ah]at lP M aL ip WV gy Od
   go_wp2;go_loopw [6,29] (fun s i cY=>∃k:Nat,k<=row.length/\i=.int .i64 k/\kQ K d cY s (row.take k)/\β K cY) (fun _ i _=>row.length-(RowKit.intOf i).toNat);case atStart=>exact⟨0,dx _,rfl,WV.out,gy.out⟩
   case round=>
    clear WV gy;obtain⟨i,hi,rfl,an,A⟩:=hrel;obtain⟨Y,T,Pg⟩:=an.gX;have GR:(row.take i).length=i:=by rw[nu];omega
    rw[GR]at Pg;subst Pg;by_cases nf:i<row
    ·obtain⟨ax,Zm,rfl,_,aj,OP⟩:=lP.out _ A z;obtain⟨b4,X,U,cP,V,gJ,nI,gK,gu,nW,gv,ag,G5⟩:=OP i nf;obtain⟨eN,dv,dy,gj,hF,hQ,i8⟩:=G5;have fx:=e4 wr (.cells (bM b4 X U cP V gJ nI gK gu nW gv) 42);have gz:=G (ai.out _ _ _ (ag.K fx));have wN:Hid (row.take (i+1)=row.take i++[row[i]]):=G (p9 nf);have r1:(row.take i).length<=100:=z;have lO:=G an;have fK:=G fx;have aw:=G GR;have gZ:(0:Int)<=(i:Int):=z;have Ep:(i:Int)<row.length:=z;have dT:=A.size;have eu:=cW wr (.cells (bM b4 X U cP V gJ nI gK gu nW gv) 42);have XD:=G eu;clear OP ag an fx GR eu;go_upto_region 10 with fail
     clear eN dv dy gj hF hQ i8;generalize row[i]=x at*;obtain⟨QU,aP,QR,QS,QV,QT,QW⟩:=x;have pQ:wr.heap.size<(wr.alloc (.cells (bM b4 X U cP V gJ nI gK gu nW gv) 42)).heap.size:=ao;have hb:=G (A.trans (fK.out.mono dT));generalize (wr.alloc (.cells (bM b4 X U cP V gJ nI gK gu nW gv) 42))=w7 at*;obtain⟨eN,dv,dy,gj,hF,hQ,i8⟩:=eX XD.out
     go_wp2_with (first|(go_at_call 50;refine gz.out.mono ?_;rintro e dc ⟨⟨F,rfl,J⟩,gh⟩;obtain⟨iE,iS,kJ,kh,rfl,_⟩:=J.gX;have g2:=G J;have yO:=gh.size;clear J)|(at_builtin;refine Lr rfl _ _ rfl (base:=K.heap.size) (d:=d) (l:=row.take i) (y:=.mk QU aP QR QS QV QT QW) (v:=.slice Y i T) rfl ((lO.out.K fK.out).K gh) rfl ((lO.out.K fK.out).p1 (aZ _) z g2.out) r1 z ?_;intro v9 gG aX _ bx;have RI:=G aX;have uM:=G ((hb.out.trans (gh.mono z)).trans bx);clear aX bx))
     exact ao1
    ·obtain rfl:i=row.length:=z;have Ep:¬(row.length:Int)<row.length:=z;rw[tk]at an;obtain⟨a',fd,cg,Tw⟩:=an.Qu Pb;cases cg;obtain⟨ss,Co,yL,G6⟩:=M.out.o;have dO:=yL;rw[uP.out]at Co yL;have iC:=G yL;have uT:=G G6;have R7:=G Co;have o4:=G Tw;have P:=G A;have al:=A.size;clear an Tw Co yL G6 dO A
     go_wp2_with (at_builtin;refine Ri _ rfl _ _ 40 rfl B 36 Pn _ 1 24 Rb OT ng ii oO rfl ak (.slice va j D) j ss rfl ((xA iC.out (.hP P.out)).alloc _) ⟨wr,0,none⟩ 1 1 [.slice Y row T] rfl rfl (rA (cs:=#[.slice Y row T]) (t:=36) (fr:=(0,0)) (px wr _)) (by simp[Value.oneCell']) ak (by unfold maxLen;omega) z bz (wr.heap.size+1) ao ?_;intro g cap w7 cX Q fv T2);have Tq:=M.out.K P.out;have pi:je B d w7 (.slice (some ⟨g,0,none⟩) (j+1) cap) (aQ.take j++[row]):=by
      have:=Tq.push (a:=Y) (u:=row) (c:=T) (M.out.p1 (aZ _) Od o4.out) Q fv (R7.out.trans uP.out.symm) (fun p H I=>by
       obtain⟨b8,cr,e,ag⟩:=uT.out p H I
       exact⟨b8,cr,e,ag.ex (fun _ _ _ _ ag A=>ag.ex A) (.hP P.out)⟩) (by rw[uP.out];exact cX)
      rw[uP.out]at this;exact this
     rw[←eH.out]at pi;have xq:B<=w7.heap.size:=by have:=Q.size;simp at this;omega
     have OA:=(aL.out.K P.out).grown Q (fun b A=>by have:=(M.out.lt b A).1;omega);have Ov:=(ip.out.K P.out).ex (w':=w7) ⟨by have:=Q.size;simp at this;omega,fun b A au=>by
      rw[Q.block b bz (fun e=>by have:=(M.out.lt b e.symm).1;have:=A.2;omega)]
      exact CU wr _ b au⟩
     exact⟨⟨j+1,z,bG,pi,OA,Ov,xq⟩,by simp[RowKit.intOf];omega⟩
  ·obtain rfl:j=aQ.length:=z;have Ep:¬(aQ.length:Int)<aQ.length:=z;rw[tk]at L;obtain⟨a',fd,cg,du⟩:=L.aQ JZ;cases cg;have R:wr.cell? ⟨w,6,none⟩=some (.slice ra aQ rc):=aK 6 q.g;have lK:=kg 6 q.g;have qD:=bF q.g;have f:Hid (k4 w (bM k s N S n c1 cs c2 va aQ D) 42 (wr.setCell ⟨w,6,none⟩ (.slice va aQ D))):=G (q.arq 6 _);have ls:=G (hK.ex (aU.mono (fa B) d) du ((eQ.refl _ wr).set (r:=w.heap.size) (by show ¬(B<=w.heap.size);omega) 6 (.slice va aQ D)));have ip:=G (Z.ex ((eQ.refl _ wr).set (r:=w.heap.size) (fun ab=>by have:m.heap.size<=w.heap.size:=ab.1;omega) 6 (.slice va aQ D)));clear L du Z q Od;go_upto_region 15 with fail
   clear R lK qD;generalize (wr.setCell ⟨w,6,none⟩ (.slice va aQ D))=bi at*;obtain⟨eN,dv,dy,gj,hF,hQ,i8⟩:=eX f.out.g;have g3:=aK 0 f.out.o;have z0:=kg 0 f.out.o;have di:=aK 1 f.out.o;have cy:=kg 1 f.out.o;have dL:=aK 2 f.out.o;have dz:=kg 2 f.out.o;have fN:=aK 3 f.out.o;have z3:=kg 3 f.out.o;have gt:=aK 4 f.out.o;have z4:=kg 4 f.out.o;have g4:=aK 5 f.out.o;have z5:=kg 5 f.out.o;have g9:=aK 6 f.out.o;have eO:=kg 6 f.out.o;have eh:=bF f.out.o;have qD:=bF f.out.g
   go_wp2;refine jT (CA (fn:=f50) rfl _ _ (w.heap.size+1) 42 _ (0,0) _ rfl (EE f.out.o _ _ _ _ _ _ _) Wj rfl Qx) rfl ?_;refine⟨⟨_,rfl,c1,c2,va,D,rfl,?_,?_⟩,iJ f.out.b z _ _ _ _ _ _ _⟩;exact(ip.out.ex (K6 (eQ.refl _ bi) (fun ab=>by have:m.heap.size<=w.heap.size+1:=ab.1;omega) _ _ _ _ _ _ _)).low fun b A=>cO (cO (IH _ 2) kb) A.1;exact hK.low (fun b (A:B<=b)=>(cO (cO (cO (IH _ 2) kb) af) A:w.heap.size<=b)) (fun _ _ _ J=>J.low fun b (A:B<=b)=>(cO (cO (cO (IH _ 2) kb) af) A:w.heap.size<=b)) (hK.ex (aU.mono (fa B) d) ls.out (K6 (eQ.refl _ bi) (by show ¬(B<=w.heap.size+1);omega) _ _ _ _ _ _ _))
theorem aiZ(w:World)(F:Array Value)(v:bC)(h:aU aV 0 w F v):χ 50 #[.agg F] w (uZ 0 w v):=by
 obtain⟨k,s,N,S,n,cs,aQ⟩:=v;have H:=h.Ib;obtain⟨rfl,_⟩:=h;refine(ai0 0 k s N S n cs [] (fun h=>absurd h ao) w F H).mono ?_;rintro e w' ⟨⟨a,rfl,ca,cc,ra,rc,aj,I,_⟩,A⟩;exact⟨⟨a,rfl,rfl,ca,cc,ra,rc,aj,I⟩,A⟩
theorem axH(w:World)(F:Array Value)(v:bC)(h:aU aV 1 w F v):χ 50 #[.agg F] w (uZ 1 w v):=by
 obtain⟨k,s,N,S,n,cs,aQ⟩:=v;exact ai0 0 k s N S n cs aQ (fun _ w F v h=>aiZ w F v h) w F h
end Go.bS
