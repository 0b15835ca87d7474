/- ItemInForce, one part of the proof. -/
import Derived.Test.YtdhifebhlocikaaGreatDoorP11
set_option linter.all false
set_option maxRecDepth 100000
set_option maxHeartbeats 16000000
namespace Go.bE
open Go Go.Proofs.Tryz Go.Proofs Go.RowKit Go.Lib Go.aM
def IT(m:Nat)(op aO:Ψ)(ee:List Nat)(f:yZ)(w:Γ)(Z:Φ)(ca:Θ)(cl cc:Nat)(fv:Θ)(rl rc:Nat) (pq:∀W,β w W->χ 120 #[op,aO,Z,.slice ca cl cc] W (Di ee)) (pn:∀W,χ 193 #[op,aO] W (Dh f)) (kG:∀k∈ee,1<=k)(G:Θ)(ac:Nat)(l:List bs)(P:∀v∈l,∃n,e9 n v)(h:cm aD (aR aD 1) w G l) (Jc:(op.toList==[105,102])=false)(Nt:(op.toList==[99,111,108])=false)(SZ:(op.toList==[116,101,120,116])=false)(Y0:(op.toList==[110,117,109,98,101,114])=false)(ab:(op.toList==[100,97,116,101])=false)(ad:(op.toList==[98,111,111,108])=false)(mq:op∉j7)(w_:op∉nK) (iv:wE ee l->∀W j t g r s,β w W->g0 aD W j f.nm->pw W g r f.p->χ 483 #[op,aO,.agg (e3 j f.nm t f.k f.n f.dH f.ds g r s),.slice G l ac] W (e_ W m)): χ 415 #[op,aO,.slice G l ac,Z,.slice ca cl cc,.slice fv rl rc] w (e_ w m):=by
 have E:=A (wv.start w);have bp:=A pq;have bP:=A pn;have qx:=A iv;have pp:=A λW (d:β w W)=>(cm.K (aR.mono aD 1) h d).2;have sR:=A P;have e8:=h.1;have AX:=A kG;have Mf:=A mq;clear mq;have Xp:=A w_;clear w_;clear pq pn iv h P kG;go_enter HR,HT;go_upto_region 1 with fail
 generalize w.alloc (.cells fo 44)=am at E|-;have Y:=E.out.b;go_upto_region 2 with(go_at_call 120;refine(bp.out _ Y).mono ?_;rintro e ap ⟨⟨J6,J7,J8,rfl,g'⟩,bu⟩;generalize rI:ee.length=ob)
 have e0:=A (E.out.K bu);clear bp E Y bu;by_cases H:l.length=ob
 .have dA:((l.length:Int) !=(ob:Int))=false:=by simp[H]
  have gi:=A λW (d:β ap W)=>(g'.K d).2;clear g';go_wp2;go_loopw [20,21] (λi _ wr=>∃k:Nat,k<=l.length/\i=.int .i64 k/\β ap wr/\pu ee l k) (λi _ _=>l.length-(RowKit.intOf i).toNat);case atStart=>exact⟨0,dh _,rfl,bl _ _,pu.zero _ _⟩
  case round=>obtain⟨k,aa,rfl,bm,qO⟩:=hrel;have eS:=A (e0.out.K bm);by_cases au:k<l;exact Ke;{(have rF:wE ee l:=qO.all (H.trans rI.symm) z;have dO:=bm.size;clear qO gi pp sR e0 bm;go_upto_region 22 with(go_at_call 193;refine(bP.out _).mono ?_;rintro e C ⟨⟨j,t,g,r,s,rfl,qR,qg⟩,bJ⟩));(have jp:=eS.out.K bJ;have c:=A (jp.K (fu C (.cells (e3 j f.nm t f.k f.n f.dH f.ds g r s) 251)));have a:=c7 C (.cells (e3 j f.nm t f.k f.n f.dH f.ds g r s) 251);have u:=A (qR.K (fu C (.cells (e3 j f.nm t f.k f.n f.dH f.ds g r s) 251)));have x:=A (pw.K qg (fu C (.cells (e3 j f.nm t f.k f.n f.dH f.ds g r s) 251)));clear jp bJ eS qR qg bP;generalize C.heap.size=jq at*;generalize C.alloc (.cells (e3 j f.nm t f.k f.n f.dH f.ds g r s) 251)=D at*;replace a:=A a;go_upto_region 39 with fail);(have O:g0 aD (D.alloc (.cells (j7.map Value.string).toArray 9)) (some ⟨D,0,none⟩) j7:=Qf D j7 al;have M:=A (MG _ _ 9 j7 op O false ⟨λh=>absurd h al,λh=>absurd h Mf⟩);have y:=A (λ(W:Γ) (e:D.alloc (.cells (j7.map Value.string).toArray 9)=W)=>e▸fu D (.cells (j7.map Value.string).toArray 9));clear O;go_upto_region 41 with(go_at_call 480;refine(M.out).mono ?_;rintro e w7 ⟨rfl,d⟩;replace y:=A (y.out _ d);clear d M));(have I:=A (c.out.K y);have N:=A (LA.PI a y);have J:=A (u.out.K y);have L:=A (pw.K x y);clear y c a u x;have c:=I;have a:=N;have u:=J;have x:=L;clear I N J L;go_upto_region 41 with fail);(have X:g0 aD (w7.alloc (.cells (nK.map Value.string).toArray 9)) (some ⟨w7,0,none⟩) nK:=Qf w7 nK al;have T:=A (MG _ _ 8 nK op X false ⟨λh=>absurd h al,λh=>absurd h Xp⟩);have B:=A (λ(W:Γ) (e:w7.alloc (.cells (nK.map Value.string).toArray 9)=W)=>e▸fu w7 (.cells (nK.map Value.string).toArray 9));clear X;go_upto_region 43 with(go_at_call 480;refine(T.out).mono ?_;rintro e dc ⟨rfl,d⟩;replace B:=A (B.out _ d);clear d T));have U:=A (c.out.K B);have R:=A (LA.PI a B);have S:=A (u.out.K B);have Q:=A (pw.K x B);clear B c a u x;have c:=U;have a:=R;have u:=S;have x:=Q;clear U R S Q;let⟨lw,h3,hK,f3,wW,f5⟩:=gp a;have F:=qx.out rF dc j t g r s c.out.b u x;rw[H]at F;replace F:=A F;have zU:w.heap.size<=dc.heap.size:=c.out.b.size;have kr:w.heap.size<dc.heap.size:=bM c.out.o;clear qx u x a rF dO;go_wp2_with (go_at_call 483;(with_reducible refine F.out.mono ?_);rintro e Ax ⟨⟨ii,bU,kl,mf,kE,mD,mh,mE,mF,mj,mG,err,rfl,oF,lD,l3⟩,oE⟩;have dv:=A (c.out.K oE);have hF:=dv.out.o;let⟨hf,dn,dR,fy,gG,hg,hj⟩:=eU hF;let⟨z0,cC,dC,z3,z4,z5,eJ⟩:=hp hF);exact apr}
 exact GR
end Go.bE
namespace Go.bE
open Go Go.Proofs Go.RowKit Go.Lib Go.aM
open Go.di (c8 bD jy)
open Go.bk.N (l_)
variable{a b:Nat}
def Ac(h:a<=b):10^a<=10^b:=k5 al h
variable{x c:Nat}
def apw(h:x<=10^a)(d:a+b<=c):x*10^b<=10^c:=c6 (rm _ h) (by rw[<-afJ];exact Ac d)
def aFi{y:Nat}(h:x<=10^a)(k:y<=10^b)(d:a+b<=c):x*y<=10^c:=c6 (yQ h k) (by rw[<-afJ];exact Ac d)
def aK1(a:Nat):10^a+10^a<=10^(a+1):=by rw[yR];omega
def apW(S:c8)(g:Nat)(q:List Nat)(J:fZ S ⟨g,⟨#[97,100,100]⟩,⟨#[]⟩,q⟩ [2,2]=true)(L:g4 ⟨[],0,0,0,0,none⟩ (g5 ⟨#[97,100,100]⟩ ⟨#[]⟩)=true):l9 S ⟨g,⟨#[97,100,100]⟩,⟨#[]⟩,q⟩:=by intro m w j ca cc x D G rc R dE l1 oD i ac l fS n e;have E:=λW (f:β w W)=>q_ S _ _ J W j ca cc (x.K f) (D.K f);have K:=λW=>q6 _ _ _ L W;refine IT m ⟨#[97,100,100]⟩ ⟨#[]⟩ [2,2] ⟨[],0,0,0,0,none⟩ w j ca _ cc G _ rc E K al i ac l n.any e dV dV dV dV dV dV (by simp only[j7,gJ,k3];decide) (by simp only[nK,gJ,k3];decide) (λr W cb cA V ef Y f T ag=>?_);have e:=cm.K (aR.mono aD 1) e f;obtain⟨el,eq,a,b,rfl,F,bN,B,s,H,I,P,X⟩:=n.k0 r;obtain⟨k,c,rfl,A,y,c1⟩:=B.Em F;obtain⟨o,d,rfl,C,u,c2⟩:=s.Em bN;have M:max c d-c<=d:=z;have O:max c d-d<=c:=z;have cd:k.natAbs*10^(max c d-c)<=10^(2*m):=apw y z;have fB:o.natAbs*10^(max c d-d)<=10^(2*m):=apw u z;have Q:=aK1 (2*m);have U:10^(2*m+1)<=10^15:=Ac z;exact aFO _ _ _ _ _ _ _ _ _ _ _ m k o c d W i ac e (max c d) _ _ A C rfl z rfl rfl z (λN S t dX Z=>.gR N S t z z)
def apX(S:c8)(g:Nat)(q:List Nat)(J:fZ S ⟨g,⟨#[109,117,108]⟩,⟨#[]⟩,q⟩ [2,2]=true)(L:g4 ⟨[],0,0,0,0,none⟩ (g5 ⟨#[109,117,108]⟩ ⟨#[]⟩)=true):l9 S ⟨g,⟨#[109,117,108]⟩,⟨#[]⟩,q⟩:=by intro m w f ca cc x D G rc R dE l1 oD e ac l fS k c;have E:=λW (d:β w W)=>q_ S _ _ J W f ca cc (x.K d) (D.K d);have K:=λW=>q6 _ _ _ L W;refine IT m ⟨#[109,117,108]⟩ ⟨#[]⟩ [2,2] ⟨[],0,0,0,0,none⟩ w f ca _ cc G _ rc E K al e ac l k.any c dV dV dV dV dV dV (by simp only[j7,gJ,k3];decide) (by simp only[nK,gJ,k3];decide) (λr W Z Y T ef V d P ag=>?_);have c:=cm.K (aR.mono aD 1) c d;obtain⟨el,eq,a,b,rfl,F,bN,B,s,H,I,M,U⟩:=k.k0 r;obtain⟨i,j,rfl,A,y,c1⟩:=B.Em F;obtain⟨n,o,rfl,C,u,c2⟩:=s.Em bN;have cd:i.natAbs*n.natAbs<=10^(2*m):=aFi y u z;have Q:10^(2*m)<=10^15:=Ac z;have O:10^(2*m)<=10^(2*m+1):=Ac z;have fh:10^(2*a+1)<=10^7:=Ac z;have e8:10^(2*b+1)<=10^7:=Ac z;exact aFS _ _ _ _ _ _ _ _ _ _ _ m i n j o W e ac c (j+o) rfl A C z z z z (λN S t dX X=>.gR N S t z z)
def aGh(S:c8)(g:Nat)(i:List Nat)(A:fZ S ⟨g,⟨#[114,111,117,110,100]⟩,⟨#[49]⟩,i⟩ [2]=true)(C:g4 ⟨[],0,1,0,0,none⟩ (g5 ⟨#[114,111,117,110,100]⟩ ⟨#[49]⟩)=true):l9 S ⟨g,⟨#[114,111,117,110,100]⟩,⟨#[49]⟩,i⟩:=by intro m w e ca cc o t y rc R P U V d ac l fS f b;have u:=λW (c:β w W)=>q_ S _ _ A W e ca cc (o.K c) (t.K c);have B:=λW=>q6 _ _ _ C W;refine IT m ⟨#[114,111,117,110,100]⟩ ⟨#[49]⟩ [2] ⟨[],0,1,0,0,none⟩ w e ca _ cc y _ rc u B al d ac l f.any b dV dV dV dV dV dV (by simp only[j7,gJ,k3];decide) (by simp only[nK,gJ,k3];decide) (λj W O M F T J c E ag=>?_);have b:=cm.K (aR.mono aD 1) b c;obtain⟨v,a,rfl,x,s,H,I,G⟩:=f.xn j;obtain⟨n,q,rfl,r,L,c1⟩:=s.Em x;have X:10^(2*a+1)<=10^9:=Ac z;have D:10^(2*a+1)<=10^(2*m+1):=Ac z;exact aFT _ _ _ _ 0 _ _ _ _ _ _ m n q r z z (λN S k Q K=>.gR N S k z z) W d ac b
def aF_(S:c8)(g:Nat)(j:List Nat)(E:fZ S ⟨g,⟨#[98,101,116,119,101,101,110]⟩,⟨#[]⟩,j⟩ [3,3]=true)(G:g4 ⟨[],0,0,0,0,none⟩ (g5 ⟨#[98,101,116,119,101,101,110]⟩ ⟨#[]⟩)=true):l9 S ⟨g,⟨#[98,101,116,119,101,101,110]⟩,⟨#[]⟩,j⟩:=by intro m w f ca cc q x D rc R Q Y Z e ac l fS i c;have A:=λW (d:β w W)=>q_ S _ _ E W f ca cc (q.K d) (x.K d);have F:=λW=>q6 _ _ _ G W;refine IT m ⟨#[98,101,116,119,101,101,110]⟩ ⟨#[]⟩ [3,3] ⟨[],0,0,0,0,none⟩ w f ca _ cc D _ rc A F al e ac l i.any c dV dV dV dV dV dV (by simp only[j7,gJ,k3];decide) (by simp only[nK,gJ,k3];decide) (λk W P O L T N d K ag=>?_);have c:=cm.K (aR.mono aD 1) c d;obtain⟨U,V,a,b,rfl,B,bN,t,n,H,I,J,M⟩:=i.k0 k;obtain⟨y,rfl,s,r⟩:=t.acx B;obtain⟨C,rfl,u,o⟩:=n.acx bN;have X:10^7<=10^(2*m+1):=Ac z;exact aFP _ _ _ _ _ _ _ _ _ _ _ m y C ⟨s,r⟩ ⟨u,o⟩ (.gR _ 0 (by simp only[hC];omega) z z) W e ac c
def aGe(S:c8)(g:Nat)(j:List Nat)(E:fZ S ⟨g,⟨#[108,101,115,115]⟩,⟨#[]⟩,j⟩ [2,2]=true)(G:g4 ⟨[],0,0,0,0,none⟩ (g5 ⟨#[108,101,115,115]⟩ ⟨#[]⟩)=true):l9 S ⟨g,⟨#[108,101,115,115]⟩,⟨#[]⟩,j⟩:=by intro m w f ca cc q y D rc R U Z oD e ac l fS i c;have B:=λW (d:β w W)=>q_ S _ _ E W f ca cc (q.K d) (y.K d);have F:=λW=>q6 _ _ _ G W;refine IT m ⟨#[108,101,115,115]⟩ ⟨#[]⟩ [2,2] ⟨[],0,0,0,0,none⟩ w f ca _ cc D _ rc B F al e ac l i.any c dV dV dV dV dV dV (by simp only[j7,gJ,k3];decide) (by simp only[nK,gJ,k3];decide) (λk W T Q M V O d K ag=>?_);have c:=cm.K (aR.mono aD 1) c d;obtain⟨X,Y,a,b,rfl,C,bN,t,n,H,I,J,N⟩:=i.k0 k;obtain⟨o,r,rfl,s,P,c1⟩:=t.Em C;obtain⟨u,A,rfl,x,L,c2⟩:=n.Em bN;exact aFR _ _ _ _ _ _ _ _ _ _ _ m o u r A s x z W e ac c
def aGb(S:c8)(g:Nat)(j:List Nat)(D:fZ S ⟨g,⟨#[100,97,121,115]⟩,⟨#[]⟩,j⟩ [3,2]=true)(F:g4 ⟨[],0,0,0,0,none⟩ (g5 ⟨#[100,97,121,115]⟩ ⟨#[]⟩)=true):l9 S ⟨g,⟨#[100,97,121,115]⟩,⟨#[]⟩,j⟩:=by intro m w f ca cc o x C rc R Q X Y e ac l fS i c;have A:=λW (d:β w W)=>q_ S _ _ D W f ca cc (o.K d) (x.K d);have E:=λW=>q6 _ _ _ F W;refine IT m ⟨#[100,97,121,115]⟩ ⟨#[]⟩ [3,2] ⟨[],0,0,0,0,none⟩ w f ca _ cc C _ rc A E al e ac l i.any c dV dV dV dV dV dV (by simp only[j7,gJ,k3];decide) (by simp only[nK,gJ,k3];decide) (λk W P O L T N d J ag=>?_);have c:=cm.K (aR.mono aD 1) c d;obtain⟨U,V,a,b,rfl,B,bN,s,n,H,I,G,M⟩:=i.k0 k;obtain⟨y,rfl,r,q⟩:=s.acx B;obtain⟨t,z,rfl,u,K,c2⟩:=n.Em bN;exact aFQ _ _ _ _ _ _ _ _ _ _ _ m y t z ⟨r,q⟩ u W e ac c
def aGq(S:c8)(g:Nat)(k:List Nat)(z:fZ S ⟨g,⟨#[119,104,101,114,101]⟩,⟨#[107,105,110,100]⟩,k⟩ [5,1]=true)(B:g4 ⟨[lM],0,0,0,0,none⟩ (g5 ⟨#[119,104,101,114,101]⟩ ⟨#[107,105,110,100]⟩)=true):l9 S ⟨g,⟨#[119,104,101,114,101]⟩,⟨#[107,105,110,100]⟩,k⟩:=by intro m w e ca cc r t y rc R K P Q f ac l fS i c;have u:=λW (d:β w W)=>q_ S _ _ z W e ca cc (r.K d) (t.K d);have A:=λW=>q6 _ _ _ B W;refine Sp m ⟨#[119,104,101,114,101]⟩ ⟨#[107,105,110,100]⟩ [5,1] ⟨[lM],0,0,0,0,none⟩ w e ca _ cc y _ rc u A al f ac l i.any c dV dV dV dV dV dV (by simp only[j7,gJ,k3];decide) (by simp only[nK,gJ,k3];decide) (λn W s J D M G d q ag=>?_);have c:=cm.K (aR.mono aD 1) c d;obtain⟨N,O,a,b,rfl,x,bN,j,o,H,I,C,E⟩:=i.k0 n;obtain⟨aG,rfl,t0⟩:=j.acy x;obtain⟨F,rfl,L⟩:=o.GY bN;exact aKv _ _ _ _ _ _ m aG j _ _ _ _ _ "".toUTF8 W s f ac e q c
def aGp(S:c8)(g:Nat)(j:List Nat)(x:fZ S ⟨g,⟨#[115,117,109]⟩,⟨#[97,109,111,117,110,116,62,61,48]⟩,j⟩ [5]=true)(A:g4 ⟨[lv],0,0,0,0,none⟩ (g5 ⟨#[115,117,109]⟩ ⟨#[97,109,111,117,110,116,62,61,48]⟩)=true):l9 S ⟨g,⟨#[115,117,109]⟩,⟨#[97,109,111,117,110,116,62,61,48]⟩,j⟩:=by intro m w d ca cc o r u rc R F J K e ac l fS f b;have s:=λW (c:β w W)=>q_ S _ _ x W d ca cc (o.K c) (r.K c);have y:=λW=>q6 _ _ _ A W;refine Sp m ⟨#[115,117,109]⟩ ⟨#[97,109,111,117,110,116,62,61,48]⟩ [5] ⟨[lv],0,0,0,0,none⟩ w d ca _ cc u _ rc s y al e ac l f.any b dV dV dV dV dV dV (by simp only[j7,gJ,k3];decide) (by simp only[nK,gJ,k3];decide) (λk W q E B G D c n ag=>?_);have b:=cm.K (aR.mono aD 1) b c;obtain⟨v,a,rfl,t,i,H,I,C⟩:=f.xn k;obtain⟨aG,rfl,t0⟩:=i.acy t;exact aKu _ _ _ _ _ _ m z aG i "".toUTF8 W q e ac d n b
def aGa(S:c8)(g:Nat)(i:List Nat)(t:fZ S ⟨g,⟨#[99,111,117,110,116]⟩,⟨#[]⟩,i⟩ [5]=true)(x:g4 ⟨[],0,0,0,0,none⟩ (g5 ⟨#[99,111,117,110,116]⟩ ⟨#[]⟩)=true):l9 S ⟨g,⟨#[99,111,117,110,116]⟩,⟨#[]⟩,i⟩:=by intro m w d ca cc k o s rc R F J K e ac l fS f b;have q:=λW (c:β w W)=>q_ S _ _ t W d ca cc (k.K c) (o.K c);have u:=λW=>q6 _ _ _ x W;refine Sp m ⟨#[99,111,117,110,116]⟩ ⟨#[]⟩ [5] ⟨[],0,0,0,0,none⟩ w d ca _ cc s _ rc q u al e ac l f.any b dV dV dV dV dV dV (by simp only[j7,gJ,k3];decide) (by simp only[nK,gJ,k3];decide) (λj W E D A G C c y ag=>?_);have b:=cm.K (aR.mono aD 1) b c;obtain⟨v,a,rfl,r,n,H,I,B⟩:=f.xn j;obtain⟨aG,rfl,t0⟩:=n.acy r;exact aKs _ _ _ _ _ _ _ _ _ _ m z aG t0 W e ac d b
def aGf(S:c8)(g:Nat)(j:List Nat)(x:fZ S ⟨g,⟨#[108,111,111,107,117,112]⟩,⟨#[112,114,105,99,101,115,46,99,111,100,101,46,112,114,105,99,101,58,110,117,109,98,101,114]⟩,j⟩ [1]=true)(A:g4 ⟨[pO,oA,oL],2,0,0,0,none⟩ (g5 ⟨#[108,111,111,107,117,112]⟩ ⟨#[112,114,105,99,101,115,46,99,111,100,101,46,112,114,105,99,101,58,110,117,109,98,101,114]⟩)=true):l9 S ⟨g,⟨#[108,111,111,107,117,112]⟩,⟨#[112,114,105,99,101,115,46,99,111,100,101,46,112,114,105,99,101,58,110,117,109,98,101,114]⟩,j⟩:=by intro m w d ca cc f r u rc R F J K e ac l fS i c;have s:=λW (b:β w W)=>q_ S _ _ x W d ca cc (f.K b) (r.K b);have y:=λW=>q6 _ _ _ A W;refine Sp m ⟨#[108,111,111,107,117,112]⟩ ⟨#[112,114,105,99,101,115,46,99,111,100,101,46,112,114,105,99,101,58,110,117,109,98,101,114]⟩ [1] ⟨[pO,oA,oL],2,0,0,0,none⟩ w d ca _ cc u _ rc s y al e ac l i.any c dV dV dV dV dV dV (by simp only[j7,gJ,k3];decide) (by simp only[nK,gJ,k3];decide) (λk W o E B G D b n ag=>?_);have c:=cm.K (aR.mono aD 1) c b;obtain⟨v,a,rfl,t,q,H,I,C⟩:=i.xn k;obtain⟨bY,rfl,t0⟩:=q.GY t;exact aKt _ _ _ _ _ _ _ _ m z bY W o e ac d (f.K b) n c
end Go.bE
namespace Go.bE
open Go Go.Proofs Go.RowKit Go.Lib Go.aM
open Go.di (c8 bD jy)
open Go.bk.N (l_ cG mP mQ mu om lp nb)
def asI(l:List UInt8):Bool:=Nat.ble l.length 200&&l.all λc=>Nat.ble 32 c.toNat&&Nat.ble c.toNat 126
def EG{l:List UInt8}(h:asI l=true):kC ⟨⟨l⟩⟩:=by simp only[asI,dW,Lk,iq]at h;refine⟨h.1,λk a=>?_⟩;have b:k<l.length:=a;have H:=h.2 _ (fp b);have I:(⟨⟨l⟩⟩:Ψ)[k]=l[k]:=rfl;rw[I];omega
def aq1:g4 ⟨[⟨#[97]⟩],0,0,0,0,none⟩ (g5 ⟨#[99,111,108]⟩ ⟨#[97]⟩)=true:=aw
def aHO:g4 ⟨[⟨#[98]⟩],0,0,0,0,none⟩ (g5 ⟨#[99,111,108]⟩ ⟨#[98]⟩)=true:=aw
def aHY:g4 ⟨[],0,0,0,0,none⟩ (g5 ⟨#[99,111,110,99,97,116]⟩ ⟨#[]⟩)=true:=aw
def aq4:g4 ⟨[],0,0,0,0,none⟩ (g5 ⟨#[117,112,112,101,114]⟩ ⟨#[]⟩)=true:=aw
def aH':g4 ⟨[],0,0,0,0,none⟩ (g5 ⟨#[116,101,120,116]⟩ ⟨#[45]⟩)=true:=aw
def aIa:g4 ⟨[],0,1,0,0,some 1⟩ (g5 ⟨#[101,120,116,114,97,99,116]⟩ ⟨#[92,100,43,35,49]⟩)=true:=aw
def Va:g4 ⟨[⟨#[110]⟩],0,0,0,0,none⟩ (g5 ⟨#[99,111,108]⟩ ⟨#[110]⟩)=true:=aw
def aq5:g4 ⟨[⟨#[109]⟩],0,0,0,0,none⟩ (g5 ⟨#[99,111,108]⟩ ⟨#[109]⟩)=true:=aw
def aq6:g4 ⟨[],0,0,0,0,none⟩ (g5 ⟨#[97,100,100]⟩ ⟨#[]⟩)=true:=aw
def aq7:g4 ⟨[],0,0,0,0,none⟩ (g5 ⟨#[109,117,108]⟩ ⟨#[]⟩)=true:=aw
def aHP:g4 ⟨[],0,0,2,0,none⟩ (g5 ⟨#[110,117,109,98,101,114]⟩ ⟨#[50]⟩)=true:=aw
def aHQ:g4 ⟨[],0,1,0,0,none⟩ (g5 ⟨#[114,111,117,110,100]⟩ ⟨#[49]⟩)=true:=aw
def aq2:g4 ⟨[⟨#[100]⟩],0,0,0,0,none⟩ (g5 ⟨#[99,111,108]⟩ ⟨#[100]⟩)=true:=aw
def aHR:g4 ⟨[],0,0,0,0,none⟩ (g5 ⟨#[100,97,121,115]⟩ ⟨#[]⟩)=true:=aw
def aHS:g4 ⟨[],0,0,7,0,none⟩ (g5 ⟨#[110,117,109,98,101,114]⟩ ⟨#[55]⟩)=true:=aw
def aHT:g4 ⟨[],0,0,0,0,none⟩ (g5 ⟨#[98,101,116,119,101,101,110]⟩ ⟨#[]⟩)=true:=aw
def aHU:g4 ⟨[⟨#[101]⟩],0,0,0,0,none⟩ (g5 ⟨#[99,111,108]⟩ ⟨#[101]⟩)=true:=aw
def aHV:g4 ⟨[pO,oA,oL],2,0,0,0,none⟩ (g5 ⟨#[108,111,111,107,117,112]⟩ ⟨#[112,114,105,99,101,115,46,99,111,100,101,46,112,114,105,99,101,58,110,117,109,98,101,114]⟩)=true:=aw
def aHW:g4 ⟨[⟨#[99,111,100,101]⟩],0,0,0,0,none⟩ (g5 ⟨#[99,111,108]⟩ ⟨#[99,111,100,101]⟩)=true:=aw
def aHX:g4 ⟨[],0,0,0,0,none⟩ (g5 ⟨#[116,101,120,116]⟩ ⟨#[65]⟩)=true:=aw
def aq3:g4 ⟨[⟨#[115]⟩],0,0,0,0,none⟩ (g5 ⟨#[99,111,108]⟩ ⟨#[115]⟩)=true:=aw
def aHZ:g4 ⟨[],0,0,0,0,none⟩ (g5 ⟨#[116,101,120,116]⟩ ⟨#[108,111,119]⟩)=true:=aw
def aH0:g4 ⟨[],1,0,0,0,none⟩ (g5 ⟨#[105,102]⟩ ⟨#[116,101,120,116]⟩)=true:=aw
def aH1:g4 ⟨[],0,0,0,0,none⟩ (g5 ⟨#[108,101,115,115]⟩ ⟨#[]⟩)=true:=aw
def aH2:g4 ⟨[],0,0,0,0,some 2⟩ (g5 ⟨#[109,97,116,99,104]⟩ ⟨#[92,117,43]⟩)=true:=aw
def aH3:g4 ⟨[],0,0,10,0,none⟩ (g5 ⟨#[110,117,109,98,101,114]⟩ ⟨#[49,48]⟩)=true:=aw
def aH4:g4 ⟨[],0,0,0,0,none⟩ (g5 ⟨#[116,101,120,116]⟩ ⟨#[104,105,103,104]⟩)=true:=aw
def aH5:g4 ⟨[lv],0,0,0,0,none⟩ (g5 ⟨#[115,117,109]⟩ ⟨#[97,109,111,117,110,116,62,61,48]⟩)=true:=aw
def aH6:g4 ⟨[],0,0,0,0,none⟩ (g5 ⟨#[99,111,117,110,116]⟩ ⟨#[]⟩)=true:=aw
def aH7:g4 ⟨[⟨#[105,116,101,109,115]⟩],0,0,0,0,none⟩ (g5 ⟨#[99,111,108]⟩ ⟨#[105,116,101,109,115]⟩)=true:=aw
def aH8:g4 ⟨[lM],0,0,0,0,none⟩ (g5 ⟨#[119,104,101,114,101]⟩ ⟨#[107,105,110,100]⟩)=true:=aw
def aH9:g4 ⟨[⟨#[107]⟩],0,0,0,0,none⟩ (g5 ⟨#[99,111,108]⟩ ⟨#[107]⟩)=true:=aw
def aH_:g4 ⟨[],0,0,0,0,none⟩ (g5 ⟨#[116,101,120,116]⟩ ⟨#[97]⟩)=true:=aw
def aK9:fZ mP ⟨0,⟨#[99,111,108]⟩,⟨#[97]⟩,[]⟩ []=true:=aw
def aK_:fZ mP ⟨0,⟨#[99,111,108]⟩,⟨#[98]⟩,[]⟩ []=true:=aw
def aK':fZ mP ⟨0,⟨#[99,111,110,99,97,116]⟩,⟨#[]⟩,[1,0]⟩ [1,1]=true:=aw
def aLa:fZ mP ⟨0,⟨#[117,112,112,101,114]⟩,⟨#[]⟩,[1]⟩ [1]=true:=aw
def aLb:fZ mP ⟨1,⟨#[99,111,108]⟩,⟨#[97]⟩,[]⟩ []=true:=aw
def aLc:fZ mP ⟨1,⟨#[116,101,120,116]⟩,⟨#[45]⟩,[]⟩ []=true:=aw
def aLd:fZ mP ⟨1,⟨#[101,120,116,114,97,99,116]⟩,⟨#[92,100,43,35,49]⟩,[1]⟩ [1]=true:=aw
def aGj:∀r∈mP.dp,l9 mP r:=by
 intro r a;simp only[mP,gJ,k3,xO]at a;rcases a with rfl|rfl|rfl|rfl|rfl|rfl|rfl
 exact rV mP 0 ⟨#[97]⟩ [] aK9 aq1 (by simp[mP]) al;exact rV mP 0 ⟨#[98]⟩ [] aK_ aHO (by simp[mP]) al;exact aF' mP 0 [1,0] aK' aHY;exact apY mP 0 [1] aLa aq4;exact rV mP 1 ⟨#[97]⟩ [] aLb aq1 (by simp[mP]) al;exact PL mP 1 ⟨#[45]⟩ [] aLc aH' (EG aw);exact aGc mP 1 [1] aLd aIa
def aLe:fZ mQ ⟨0,⟨#[99,111,108]⟩,⟨#[110]⟩,[]⟩ []=true:=aw
def aLf:fZ mQ ⟨0,⟨#[99,111,108]⟩,⟨#[109]⟩,[]⟩ []=true:=aw
def aLg:fZ mQ ⟨0,⟨#[97,100,100]⟩,⟨#[]⟩,[1,0]⟩ [2,2]=true:=aw
def aLh:fZ mQ ⟨0,⟨#[109,117,108]⟩,⟨#[]⟩,[0,1]⟩ [2,2]=true:=aw
def aLi:fZ mQ ⟨1,⟨#[110,117,109,98,101,114]⟩,⟨#[50]⟩,[]⟩ []=true:=aw
def aLj:fZ mQ ⟨1,⟨#[99,111,108]⟩,⟨#[109]⟩,[]⟩ []=true:=aw
def aLk:fZ mQ ⟨1,⟨#[114,111,117,110,100]⟩,⟨#[49]⟩,[1]⟩ [2]=true:=aw
def aGk:∀r∈mQ.dp,l9 mQ r:=by
 intro r a;simp only[mQ,gJ,k3,xO]at a;rcases a with rfl|rfl|rfl|rfl|rfl|rfl|rfl
 exact rV mQ 0 ⟨#[110]⟩ [] aLe Va (by simp[mQ]) al;exact rV mQ 0 ⟨#[109]⟩ [] aLf aq5 (by simp[mQ]) al;exact apW mQ 0 [1,0] aLg aq6;exact apX mQ 0 [0,1] aLh aq7;exact acE 2 mQ 1 ⟨#[50]⟩ [] aLi aHP al;exact rV mQ 1 ⟨#[109]⟩ [] aLj aq5 (by simp[mQ]) al;exact aGh mQ 1 [1] aLk aHQ
def aLl:fZ mu ⟨0,⟨#[99,111,108]⟩,⟨#[100]⟩,[]⟩ []=true:=aw
def aLm:fZ mu ⟨0,⟨#[100,97,121,115]⟩,⟨#[]⟩,[0,1]⟩ [3,2]=true:=aw
def aLn:fZ mu ⟨1,⟨#[99,111,108]⟩,⟨#[110]⟩,[]⟩ []=true:=aw
def aLo:fZ mu ⟨1,⟨#[110,117,109,98,101,114]⟩,⟨#[55]⟩,[]⟩ []=true:=aw
def aLp:fZ mu ⟨1,⟨#[98,101,116,119,101,101,110]⟩,⟨#[]⟩,[2,2]⟩ [3,3]=true:=aw
def aLq:fZ mu ⟨2,⟨#[99,111,108]⟩,⟨#[100]⟩,[]⟩ []=true:=aw
def aLr:fZ mu ⟨2,⟨#[99,111,108]⟩,⟨#[101]⟩,[]⟩ []=true:=aw
def aGl:∀r∈mu.dp,l9 mu r:=by
 intro r a;simp only[mu,gJ,k3,xO]at a;rcases a with rfl|rfl|rfl|rfl|rfl|rfl|rfl
 exact rV mu 0 ⟨#[100]⟩ [] aLl aq2 (by simp[mu]) al;exact aGb mu 0 [0,1] aLm aHR;exact rV mu 1 ⟨#[110]⟩ [] aLn Va (by simp[mu]) al;exact acE 7 mu 1 ⟨#[55]⟩ [] aLo aHS al;exact aF_ mu 1 [2,2] aLp aHT;exact rV mu 2 ⟨#[100]⟩ [] aLq aq2 (by simp[mu]) al;exact rV mu 2 ⟨#[101]⟩ [] aLr aHU (by simp[mu]) al
def aLs:fZ om ⟨0,⟨#[108,111,111,107,117,112]⟩,⟨#[112,114,105,99,101,115,46,99,111,100,101,46,112,114,105,99,101,58,110,117,109,98,101,114]⟩,[1]⟩ [1]=true:=aw
def aLt:fZ om ⟨0,⟨#[99,111,108]⟩,⟨#[110]⟩,[]⟩ []=true:=aw
def aLu:fZ om ⟨0,⟨#[109,117,108]⟩,⟨#[]⟩,[0,0]⟩ [2,2]=true:=aw
def aLv:fZ om ⟨1,⟨#[99,111,108]⟩,⟨#[99,111,100,101]⟩,[]⟩ []=true:=aw
def aLw:fZ om ⟨1,⟨#[117,112,112,101,114]⟩,⟨#[]⟩,[1]⟩ [1]=true:=aw
def aLx:fZ om ⟨1,⟨#[116,101,120,116]⟩,⟨#[65]⟩,[]⟩ []=true:=aw
def aGm:∀r∈om.dp,l9 om r:=by
 intro r a;simp only[om,gJ,k3,xO]at a;rcases a with rfl|rfl|rfl|rfl|rfl|rfl
 exact aGf om 0 [1] aLs aHV;exact rV om 0 ⟨#[110]⟩ [] aLt Va (by simp[om]) al;exact apX om 0 [0,0] aLu aq7;exact rV om 1 ⟨#[99,111,100,101]⟩ [] aLv aHW (by simp[om]) al;exact apY om 1 [1] aLw aq4;exact PL om 1 ⟨#[65]⟩ [] aLx aHX (EG aw)
def aLy:fZ lp ⟨0,⟨#[99,111,108]⟩,⟨#[115]⟩,[]⟩ []=true:=aw
def aLz:fZ lp ⟨0,⟨#[116,101,120,116]⟩,⟨#[108,111,119]⟩,[]⟩ []=true:=aw
def aLA:fZ lp ⟨0,⟨#[105,102]⟩,⟨#[116,101,120,116]⟩,[1,3,0]⟩ [4,1,1]=true:=aw
def aLB:fZ lp ⟨1,⟨#[108,101,115,115]⟩,⟨#[]⟩,[2,2]⟩ [2,2]=true:=aw
def aLC:fZ lp ⟨1,⟨#[109,97,116,99,104]⟩,⟨#[92,117,43]⟩,[3]⟩ [1]=true:=aw
def aLD:fZ lp ⟨2,⟨#[99,111,108]⟩,⟨#[110]⟩,[]⟩ []=true:=aw
def aLE:fZ lp ⟨2,⟨#[110,117,109,98,101,114]⟩,⟨#[49,48]⟩,[]⟩ []=true:=aw
def aLF:fZ lp ⟨3,⟨#[99,111,108]⟩,⟨#[115]⟩,[]⟩ []=true:=aw
def aLG:fZ lp ⟨3,⟨#[116,101,120,116]⟩,⟨#[104,105,103,104]⟩,[]⟩ []=true:=aw
def aGn:∀r∈lp.dp,l9 lp r:=by
 intro r a;simp only[lp,gJ,k3,xO]at a;rcases a with rfl|rfl|rfl|rfl|rfl|rfl|rfl|rfl|rfl
 exact rV lp 0 ⟨#[115]⟩ [] aLy aq3 (by simp[lp]) al;exact PL lp 0 ⟨#[108,111,119]⟩ [] aLz aHZ (EG aw);exact aGd lp 0 [1,3,0] aLA aH0;exact aGe lp 1 [2,2] aLB aH1;exact aGg lp 1 [3] aLC aH2;exact rV lp 2 ⟨#[110]⟩ [] aLD Va (by simp[lp]) al;exact acE 10 lp 2 ⟨#[49,48]⟩ [] aLE aH3 al;exact rV lp 3 ⟨#[115]⟩ [] aLF aq3 (by simp[lp]) al;exact PL lp 3 ⟨#[104,105,103,104]⟩ [] aLG aH4 (EG aw)
def aLH:fZ nb ⟨0,⟨#[115,117,109]⟩,⟨#[97,109,111,117,110,116,62,61,48]⟩,[1]⟩ [5]=true:=aw
def aLI:fZ nb ⟨0,⟨#[99,111,117,110,116]⟩,⟨#[]⟩,[1]⟩ [5]=true:=aw
def aLJ:fZ nb ⟨0,⟨#[97,100,100]⟩,⟨#[]⟩,[0,0]⟩ [2,2]=true:=aw
def aLK:fZ nb ⟨1,⟨#[99,111,108]⟩,⟨#[105,116,101,109,115]⟩,[]⟩ []=true:=aw
def aLL:fZ nb ⟨1,⟨#[119,104,101,114,101]⟩,⟨#[107,105,110,100]⟩,[1,2]⟩ [5,1]=true:=aw
def aLM:fZ nb ⟨2,⟨#[99,111,108]⟩,⟨#[107]⟩,[]⟩ []=true:=aw
def aLN:fZ nb ⟨2,⟨#[116,101,120,116]⟩,⟨#[97]⟩,[]⟩ []=true:=aw
def aGo:∀r∈nb.dp,l9 nb r:=by
 intro r a;simp only[nb,gJ,k3,xO]at a;rcases a with rfl|rfl|rfl|rfl|rfl|rfl|rfl
 exact aGp nb 0 [1] aLH aH5;exact aGa nb 0 [1] aLI aH6;exact apW nb 0 [0,0] aLJ aq6;exact rV nb 1 ⟨#[105,116,101,109,115]⟩ [] aLK aH7 (by simp[nb]) al;exact aGq nb 1 [1,2] aLL aH8;exact rV nb 2 ⟨#[107]⟩ [] aLM aH9 (by simp[nb]) al;exact PL nb 2 ⟨#[97]⟩ [] aLN aH_ (EG aw)
def aGi(n:Nat):∀r∈(Go.bk.N.cG n).dp,l9 (Go.bk.N.cG n) r:=by simp only[Go.bk.N.cG];split;exact aGj;split;exact aGk;split;exact aGl;split;exact aGm;split;exact aGn;exact aGo
end Go.bE
