/- ItemInForce, one part of the proof. -/
import Derived.Test.YtdhifebhlocikaaGreatDoorP17
import Derived.Test.YtdhifebhlocikaaGreatDoorP19
set_option linter.all false
set_option maxRecDepth 100000
set_option maxHeartbeats 16000000
namespace Go.aM
open Go Go.Proofs.Tryz Go.cE Go.Proofs Go.RowKit
def aud(e:Ending):Prop:=e=.returned (.bool true)
def Fq(w:Γ):Prop:=∃bd,w.heap[0]? =some (.cells #[.int .i64 1,.int .i64 10,.int .i64 100,.int .i64 1000,.int .i64 10000,.int .i64 100000,.int .i64 1000000] 304 bd)
variable{w w':Γ}
def Fq.K(h:Fq w)(G:β w w'):Fq w':=by let⟨bd,h⟩:=h;exact⟨bd,(G.block 0 (hl.1 h).1).trans h⟩
def Fh(w:Γ):Prop:=∃bd,w.heap[1]? =some (.cells (Lib.pow10Tab.map λai=>Value.int .u64 ai).toArray 358 bd)
def Fh.K(h:Fh w)(G:β w w'):Fh w':=by let⟨bd,h⟩:=h;exact⟨bd,(G.block 1 (hl.1 h).1).trans h⟩
variable{b:Nat}{arr:Ω}{t:TypeId}{bd:Nat×Nat}
def ai2(h:w.heap[b]? =some (.cells arr t bd)):nv w b=arr:=by simp[nv,h]
def ark{ρ:cj}{σ:b9}{del tot:Nat}{vs:List U}(aj:ρ.Ar=nv w)(d:ρ.bd=qM w)(h:w.heap[b]? =some (.cells arr t bd)){cs:List Φ}(a:b5 ρ σ vs=some cs)(aL:arr=cs.toArray)(hd:del=0):kA ρ σ ⟨b,del,tot⟩ w.heap[b]? (.aK t vs):=by
 subst hd;refine⟨cs,a,?_,λi hi=>?_⟩
 .rw[aj,d];have ak:nv w b=arr:=ai2 h;have c:qM w b=bd:=by simp[qM,h]
  show w.heap[b]? =some (.cells (nv w b) t (qM w b));rw[ak,c];exact h
 rw[aj];show(nv w b)[0+i]? =cs[i]?;rw[ai2 h,aL,gy];simp
def azj{ρ:cj}(b:ρ.ql=nH prog)(f:FuncId)(F:List U->ay->Option (U×ay))(h:Zg f=some F):nO prog ρ f F:=by
 have E:=ay4 b 3000;unfold Zg at h;simp only[zj]at h;split at h;rename_i e;subst e;cases h;refine Pq λq a=>?_;simp only[gJ,Rm,xO]at a;subst a;exact z_ (E.call _) aER;split at h
 .rename_i e;subst e;cases h;refine Pq λq a=>?_;simp only[gJ,Rm,xO]at a;rcases a with rfl|rfl|rfl|rfl|rfl|rfl
  exact z_ (E.call _) aES;exact z_ (E.call _) aET;exact z_ (E.call _) aEV;exact z_ (E.call _) aEW;exact z_ (E.call _) aEY;exact z_ (E.call _) aEZ
 split at h
 .rename_i e;subst e;cases h;refine Pq λq a=>?_;simp only[gJ,Rm,xO]at a;rcases a with rfl|rfl
  exact z_ (E.call _) aEU;exact z_ (E.call _) aEX
 split at h;rename_i e;subst e;cases h;refine Pq λq a=>?_;simp only[gJ,Rm,xO]at a;subst a;exact z_ (E.call _) aE0;exact ajY f F h
def ol:b9:=λb=>if b<13 then some ⟨b,0,0⟩else none
def auf:kM prog ol:=λk a=>⟨0,by rw[ZJ]at a;simp[ol,a]⟩
def MO:my:=[(0,nL),(1,nJ)]
def az9:af=hA ⟨.e,13⟩ MO:=rfl
def aug{ρ:cj}(g:Fq w)(i:Fh w)(aj:ρ.Ar=nv w)(c:ρ.bd=qM w):c_ ρ ol (hA ⟨.e,13⟩ MO) w:=by
 have n:pR MO=true:=rfl;let⟨t,t0⟩:=g;let⟨s,e⟩:=i;have pe:∀b x,(hA ⟨.e,13⟩ MO).cW b=some x->(b=0/\x=nL)∨(b=1/\x=nJ):=λb x G=>by have:=Af n G;simpa[MO]using this
 have eA:∀b p,ol b=some p->(b=0∨b=1)->(b=0/\p.ba=0)∨(b=1/\p.ba=1):=λb p ag G=>by rcases G with rfl|rfl<;>simp[ol]at ag<;>subst ag<;>simp
 refine⟨λb x G=>?_,λb a x f p d G k ag j o=>?_,λb G=>?_⟩
 .rcases pe b x G with⟨rfl,rfl⟩|⟨rfl,rfl⟩
  exact⟨⟨0,0,0⟩,rfl,ark aj c t0 (cs:=[.int .i64 1,.int .i64 10,.int .i64 100,.int .i64 1000,.int .i64 10000,.int .i64 100000,.int .i64 1000000]) rfl rfl rfl⟩;exact⟨⟨1,0,0⟩,rfl,ark aj c e (cs:=Lib.pow10Tab.map λai=>Value.int .u64 ai) rfl rfl rfl⟩
 .have l:b=0∨b=1:=by rcases pe b x G with⟨h,_⟩|⟨h,_⟩<;>omega
  have m:a=0∨a=1:=by rcases pe a f k with⟨h,_⟩|⟨h,_⟩<;>omega
  have q:=eA b p ag l;have r:=eA a d j m;omega
 .have G:13<=b:=by rw[G8]at G;exact G
  unfold ol;rw[bo z]
def aIL(w:Γ)(h:Fq w)(i:Fh w):χ 4 #[] w λe w'=>aud e:=by obtain⟨ρ,d,g,aj⟩:∃ρ:cj,ρ.ql=nH prog/\ρ.bd=qM w/\ρ.Ar=nv w:=⟨⟨λ_=>undef,nH prog,qM w,nv w⟩,rfl,rfl,rfl⟩;have a:=aIM;rw[az9]at a;unfold anf at a;split at a;rename_i j J;refine(Al follows d (k6.rB tN) (azj d) (f:=4) rfl auf (args:=[]) (cs:=[]) rfl rfl rfl (aug h i aj g) J a).mono ?_;rintro e w' ⟨c,k,rfl,b⟩;have:c=.bool true:=gm (b.v.symm.trans rfl);subst this;exact⟨rfl,b.b⟩;cases a
end Go.aM
namespace Go.bE
open Go Go.Proofs.Tryz Go.Proofs Go.RowKit Go.di Go.bk
open Go.aM (k_)
def aJu(s:Nat):((N.cG s).aJ[(N.cG s).an]'(N.Qb s).an).2=1∨((N.cG s).aJ[(N.cG s).an]'(N.Qb s).an).2=2∨((N.cG s).aJ[(N.cG s).an]'(N.Qb s).an).2=3:=by
 have h:∀S:c8,(h:S.an<S.aJ)->(S.aJ[S.an]?.map λp=>Nat.ble 1 p.2&&Nat.ble p.2 3)=some true->(S.aJ[S.an]'h).2=1∨(S.aJ[S.an]'h).2=2∨(S.aJ[S.an]'h).2=3:=λS h G=>by rw[j_ h]at G;simp at G;omega
 refine h _ _ ?_;exact apc
def aJt(s:Nat):∀x∈(N.cG s).bB,1<=x.2/\x.2<=5:=by
 have h:∀S:c8,(S.bB.all λp=>Nat.ble 1 p.2&&Nat.ble p.2 5)=true->∀x∈S.bB,1<=x.2/\x.2<=5:=λS G x a=>by have:=iq.1 G x a;simp at this;exact this
 refine h _ ?_;exact apc
def azX{s:Nat}{M:Nat->Nat}{rs:List bD}{w:Γ}{F:Ω}(h:N.xR (N.cG s) M rs w F)(n:∀i,1<=M i/\M i<=5)(e:rs.Sublist (N.cG s).dp)(l:x4 rs M (N.cG s).an):∃ca d cc a rb aK rc,F=en (N.cG s) rs ca d cc a rb aK rc/\AS (N.cG s) M rs ca d cc a rb aK rc w:=by obtain⟨ca,cc,d,a,ra,rc,rfl,g,j,c,bN,dx,gc⟩:=h;have k:=c.at;obtain⟨b,o,rfl,aj,m⟩:=c;refine⟨ca,d,cc,a,b,o,rc,rfl,⟨⟨N.Qb s,N.arZ s,n,e,g,j.at,k,bN,dx,gc⟩,⟨aj.lt,λi hi p ac f=>?_⟩,c6 e.length_le (N.aJv s),l,λr c=>aGi s r (e.subset c),aJu s,aJt s⟩⟩;let⟨q,t,H,_,I⟩:=m i hi;rw[H.c3]at f;cases f;exact I
def azJ{l R S:List b2}(h:ic (l.map b2.vs) (R.map b2.vs))(k:ic (l.map b2.vs) (S.map b2.vs)):S=R:=by have e:=h.NA k;have:=iY (List.map iM.rest) e;rw[H5,H5]at this;exact(by simpa[VT,b2.vs]using this:R=S).symm
def azI{R:List b2}(h:ic (([]:List b2).map b2.vs) (R.map b2.vs)):R=[]:=by
 cases R with
 |nil=>rfl
 |cons x R=>have:=h.GH x.vs aq;simp[mA]at this
theorem aDd(w:World)(dm:Go.aM.Fq w)(e':Go.aM.Fh w)(dY:13<=w.heap.size)(z:Option Addr)(p hz:Nat)(k:Go.aM.k_ w z p)(D:∀q,z=some q->q.block<w.heap.size)(X:p<=maxLen)(O:Option Addr)(Q h6:Nat)(cK:Fg w O Q): Calls prog 3 #[.slice z p hz,.slice O Q h6] w fun e w'=>oW e/\Below w.heap.size w w':=by
 have al:=A (fun W (d:Below w.heap.size w W)=>Go.aM.aIL W (dm.K d) (e'.K d));have ah:=A (fun W (d:Below w.heap.size w W)=>N.aEx W z p hz (c6 dY d.size) (by
  rcases k with k|⟨b,o,rfl,aF⟩
  ·exact .inl k
  ·exact .inr ⟨b,o,rfl,fun i hi=>by obtain⟨x,j⟩:=aF i hi;have jc:b<w.heap.size:=D _ rfl;exact⟨x,by rw[d.cell jc];exact j⟩⟩) (fun q E _=>i4 (D q E) d.size) X)
 have ai:=A cK;clear dm e' k D X cK;go_enter func3,ntmps3;go_upto_region 3 with(first
  |(have _:=t;go_at_call 5;refine(ah.out _ t).mono ?_;rintro e u ⟨⟨s,M,rs,F,rfl,b',n3,g1,nC,Y⟩,bu⟩;obtain⟨ca,I,cc,G,rb,aK,rc,rfl,av⟩:=azX b' n3 g1 Y;have an:=A av;have lr:=A (b3 t bu);clear b' n3 g1 nC Y av)
  |(go_at_call 4;refine(al.out _ (bl w.heap.size w)).mono ?_;rintro e am ⟨H,t⟩;cases (show e=.returned (.bool true)from H)))
 generalize N.cG s=S at*;have U:=fu u (.cells (en S rs ca I cc G rb aK rc) 29);have C:=A (b3 lr.out U);have zM:=c7 u (.cells (en S rs ca I cc G rb aK rc) 29);have aq:=A (an.out.K U);clear U al ah an t bu;generalize (u.alloc (.cells (en S rs ca I cc G rb aK rc) 29))=w3 at*;generalize u.heap.size=g_ at*;obtain⟨ct,a_,bb,bI,dr,d'⟩:=gp zM;have JY:=C.out.size;have yY:=A (aL3 aq.out (c6 dY JY) O Q h6 (ai.out.K C.out));go_upto_region 4 with(go_at_call 6;(with_reducible refine yY.out.mono ?_);rintro e f ⟨⟨a,c,l,rfl,tt,aw,ax⟩,bq⟩;have LS:=A tt;have ar:=A aw;have Z:=A ax;have i7:=A (C.out.trans (bq.mono JY));clear tt aw ax bq)
 clear ct a_ bb bI dr d' yY C zM aq ai lr;have aL:=i7.out.size;have g:=A ((ar.out.low fun _ _=>gL):kN aD f a l);have ae:=A (am2 f a c l g.out (fun x j=>(Z.out x j).1));have ab:=A fun W (d:Below f.heap.size f W)=>aIb W a c l (g.out.K d);have RD:=A fun W (d:Below f.heap.size f W)=>aDn W a c l (g.out.K d);have ad:=A fun W (d:Below f.heap.size f W)=>aIc W a c l (g.out.K d);clear ar Z g LS;go_upto_region 5 with(first
  |(have _:=y;go_at_call 8;(with_reducible refine(ab.out _ y).mono ?_);rintro e br ⟨⟨zz,aQ,T,rfl,N5,V⟩,K⟩)
  |(go_at_call 7;(with_reducible refine ae.out.mono ?_);rintro e bc ⟨⟨ff,gq,R,rfl,Tl,NV⟩,y⟩))
 obtain rfl:=azJ NV V;have aj:=A (((Tl.low fun _ _=>gL):kN aD bc ff T).K K);have af:=A N5;have m:=A (b3 y K);clear Tl NV N5 V y K ae ab;go_upto_region 6 with(first
  |(have _:=B;go_at_call 10;(with_reducible refine(ad.out _ aA).mono ?_);rintro e J ⟨⟨aM,aJ,s,rfl,aB,az⟩,L⟩)
  |(go_at_call 9;(with_reducible refine(RD.out _ m.out).mono ?_);rintro e w7 ⟨⟨aH,aI,r,rfl,aC,ay⟩,B⟩;have aA:=b3 m.out B))
 obtain⟨rfl,_⟩:=p2.NA _ _ rfl ay az;have n:=b3 B L;have mX:=A (fz.K (aR.mono aD 1) aC L);have au:=A aB;have ak:=A (aj.out.K n);have ag:=A (af.out.K n);have aP:=A (b3 m.out n);clear aC ay aB az B L aA n RD ad aj af m;have vj:=A (aIE J ff zz gq aQ T ak.out ag.out);have aN:=A fun W (d:Below J.heap.size J W)=>Vm (aR.mono aD 1) (aR.mono aD 1) (Zb 1 1) W aH aM aI aJ r r (fz.K (aR.mono aD 1) mX.out d) (fz.K (aR.mono aD 1) au.out d);have aO:Hid (∀W:World,Calls prog 7 #[.slice none 0 0] W fun e w'=>(∃a' eT R,e=.returned (.slice a' (R:List b2).length eT)/\kN (fj W.heap.size) w' a' R/\ic (([]:List b2).map b2.vs) (R.map b2.vs))/\Below W.heap.size W w'):=A fun W=>am2 W none 0 [] ⟨dh _,fun h=>absurd h (wu _)⟩ (fun x j=>by cases j);clear mX au ak ag
 go_wp2_with (first
  |(have _:=w5;go_at_call 7;(with_reducible refine(aO.out _).mono ?_);rintro e q' ⟨⟨cb,cA,N,rfl,dX,aG⟩,yi⟩;obtain rfl:=azI aG)
  |(have _:=P;go_at_call 12;(with_reducible refine(aN.out _ P).mono ?_);rintro e yK ⟨⟨q,rfl,E⟩,w5⟩;obtain rfl:q=true:=(by simpa using E))
  |(go_at_call 11;(with_reducible refine vj.out.mono ?_);rintro e gI ⟨H,P⟩;cases (show e=.returned (.bool true)from H)))
 have uy:=b3 aP.out P;have wX:=b3 uy w5;have NO:=b3 wX yi;go_ret;exact⟨rfl,i7.out.trans (NO.mono aL)⟩
end Go.bE
