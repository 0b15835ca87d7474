/- ConflictAuthors. -/
import Derived.Test.YtfgcglgpfgifkaaGreatDoorP02
set_option linter.all false
set_option maxRecDepth 100000
set_option maxHeartbeats 16000000
namespace Go.ch
open Go.Proofs.Tryz
structure ps where
 av:Nat
 rs:List rR
 c:nL
def zo(P:Program)(av:Nat):List ResultVar->Option (List rR)
 |[]=>some []
 |.tmp t::l=>if t<av then(match zo P av l with|some r=>some (.tmp t::r)|none=>none)else none
 |.cell b t::l=>if b<av then(match P.underlying t,P.info? t,zo P av l with
  |some d,some i,some r=>some (.cell b (tM d) i.size::r)
  |_,_,_=>none)else none
def um(f:FuncId):Nat:=f*64
def F2(P:Program)(f:FuncId):Option ps:=match P.funcs[f]? with
 |some fn=>match fn.body with
  |some body=>bif (fn.name != "runtime.NumGoroutine")&&Nat.ble fn.ntmps 256&&Nat.ble (hk body).length 64 then
    match zo P fn.ntmps fn.results.toList,jv P fn.ntmps (some (um f)) body with
    |some rs,some c=>some ⟨fn.ntmps,rs,c⟩
    |_,_=>none
   else none
  |none=>none
 |none=>none
def Ez(P:Program)(key:Nat):Option (Nat×Array Tmp×Code×Code):=match P.funcs[key/64]? with
 |some fn=>match fn.body with
  |some body=>bif Nat.ble (hk body).length 64 then(match (hk body)[key%64]? with
   |some x=>some (fn.ntmps,x)
   |none=>none)else none
  |none=>none
 |none=>none
def mK(P:Program)(key:Nat):Option Loop:=match Ez P key with
 |some (_,c,a,b)=>some {state:=.ready,pending:=none,fn:=key/64,tmps:=#[],params:=c,assign:=a,body:=b,defers:=0}
 |none=>none
structure E9 where
 av:Nat
 params:List Nat
 a:nL
 b:nL
def aeK(P:Program)(key:Nat):Option E9:=match Ez P key with
 |some (av,c,a,b)=>bif c.toList.all (fun t=>decide (t<av))then
   match jv P av none a,jv P av (some (key+1)) b with
   |some x,some y=>some ⟨av,c.toList,x,y⟩
   |_,_=>none
  else none
 |none=>none
abbrev AD:=FuncId->Option (List K->ay->Option (K×ay))
def PZ(P:Program)(E:iN)(n:Nat)(key:Nat):Option NH:=match aeK P key with
 |some l=>some ⟨l.av,l.params,fun bo=>sv E n (some bo) l.a,fun bo=>sv E n (some bo) l.b⟩
 |none=>none
section
variable {P:Program} {ρ:b4} {E:iN}
theorem Oo{av:Nat}:∀{l:List ResultVar} {rs:List rR},zo P av l=some rs->I0 P av l rs
 |[],rs,h=>by simp[zo]at h;subst h;trivial
 |.tmp t::l,rs,h=>by
  simp only[zo]at h
  split at h
  ·rename_i aq
   split at h
   ·rename_i r a;cases h;exact⟨⟨rfl,aq⟩,Oo a⟩
   ·cases h
  ·cases h
 |.cell b t::l,rs,h=>by
  simp only[zo]at h
  split at h
  ·rename_i aq
   split at h
   ·rename_i d i r hd hi a;cases h;exact⟨⟨rfl,aq,d,i,hd,hi,rfl,rfl⟩,Oo a⟩
   ·cases h
  ·cases h
theorem asz(o:P.follows .mixedOrders=true)(r:ρ.nC=mK P)(p:rB P ρ E){f:FuncId}{d:ps}(h:F2 P f=some d)(n:Nat):ls P ρ f (Ba d.av d.rs (sv E n none d.c)):=by
 unfold F2 at h;split at h
 ·rename_i fn k;split at h
  ·rename_i body A;cases e:((fn.name != "runtime.NumGoroutine")&&Nat.ble fn.ntmps 256&&Nat.ble (hk body).length 64)with
   |false=>rw[e]at h;simp at h
   |true=>
    rw[e]at h;simp only[er]at h;simp only[dz]at e;obtain⟨⟨H,I⟩,g⟩:=e;have g:=gP g;split at h
    ·rename_i rs c t q;cases h;refine atM k A (by simpa using H) rfl (gP I) (Oo t) (B:=rz f none) (fun _=>⟨rfl,rfl⟩) (xB o p (f:=f) body (some (um f)) c ?_ q);intro key l i x j;cases l;have hi:i<(hk body).length:=(j2.1 j).1;have ak:(um f+i)/64=f:=by unfold um;omega
     have m:(um f+i)%64=i:=by unfold um;omega
     obtain⟨s,a,b⟩:=x;refine⟨{state:=.ready,pending:=none,fn:=f,tmps:=#[],params:=s,assign:=a,body:=b,defers:=0},?_,rfl,rfl,rfl,rfl⟩;rw[r];simp only[mK,Ez,ak,m,k,A,j,H0 g,er]
    ·cases h
  ·cases h
 ·cases h
theorem B1:∀(c:Code) (i:Nat) (e:Array Tmp) (a b:Code),(hk c)[i]? =some (e,a,b)->∀j ae,(hk b)[j]? =some ae->(hk c)[i+1+j]? =some ae
 |.seq a b,i,e,x,y,h,j,ae,d=>kZ (B1 a) (B1 b) h d
 |.cond _ a b,i,e,x,y,h,j,ae,d=>kZ (B1 a) (B1 b) h d
 |.block _ a,i,e,x,y,h,j,ae,d=>B1 a i e x y h j ae d
 |.loop a,i,e,x,y,h,j,ae,d=>B1 a i e x y h j ae d
 |.rangeFunc _ f a b,i,e,x,y,h,j,ae,d=>by
  cases i with
  |zero=>
   simp only[hk,List.getElem?_cons_zero,cb,g9]at h
   obtain⟨rfl,rfl,rfl⟩:=h
   simp only[hk]
   rw[show 0+1+j=j+1 by omega,aa']
   exact d
  |succ i=>
   simp only[hk,aa']at h
   simp only[hk]
   rw[show i+1+1+j=(i+1+j)+1 by omega,aa']
   exact B1 b i e x y h j ae d
 |.skip,i,_,_,_,h,_,_,_=>by simp[hk]at h
 |.label _,i,_,_,_,h,_,_,_=>by simp[hk]at h
 |.exit _,i,_,_,_,h,_,_,_=>by simp[hk]at h
 |.ret,i,_,_,_,h,_,_,_=>by simp[hk]at h
 |.region ..,i,_,_,_,h,_,_,_=>by simp[hk]at h
 |.scope _,i,_,_,_,h,_,_,_=>by simp[hk]at h
 |.goto _,i,_,_,_,h,_,_,_=>by simp[hk]at h
 |.refuse _,i,_,_,_,h,_,_,_=>by simp[hk]at h
where
 kZ {g_ B:List (Array Tmp×Code×Code)} {i:Nat} {gN:Array Tmp} {x y:Code} {j:Nat} {ae:Array Tmp×Code×Code}
   (cx:∀(i:Nat) (gN:Array Tmp) (a b:Code),g_[i]? =some (gN,a,b)->∀j ae,(hk b)[j]? =some ae->g_[i+1+j]? =some ae)
   (bG:∀(i:Nat) (gN:Array Tmp) (a b:Code),B[i]? =some (gN,a,b)->∀j ae,(hk b)[j]? =some ae->B[i+1+j]? =some ae)
   (h:(g_++B)[i]? =some (gN,x,y)) (ax:(hk y)[j]? =some ae):(g_++B)[i+1+j]? =some ae:=by
  by_cases hi:i<g_.length
  ·rw[w0 hi]at h
   have:=cx i gN x y h j ae ax
   rw[w0 (j2.1 this).1]
   exact this
  ·rw[yM z]at h
   have:=bG _ gN x y h j ae ax
   rw[yM z,show i+1+j-g_.length=i-g_.length+1+j by omega]
   exact this
theorem ax8(o:ρ.nC=mK P){key av:Nat}{q:Array Tmp}{a b:Code}(h:Ez P key=some (av,q,a,b)){i:Nat}{ae:Array Tmp×Code×Code}(m:(hk b)[i]? =some ae):∃l,ρ.nC (key+1+i)=some l/\l.fn=key/64/\l.params=ae.1/\l.assign=ae.2.1/\l.body=ae.2.2:=by
 unfold Ez at h;split at h
 ·rename_i fn n;split at h
  ·rename_i body A;cases e:Nat.ble (hk body).length 64 with
   |false=>rw[e]at h;cases h
   |true=>
    rw[e]at h;simp only[er]at h;split at h
    ·rename_i x g;simp only[cb,g9]at h;obtain⟨rfl,rfl⟩:=h;have f:=B1 body _ _ _ _ g i ae m;have aq:=(j2.1 f).1;have r:=gP e;have ak:(key+1+i)/64=key/64:=z;have j:(key+1+i)%64=key%64+1+i:=z;obtain⟨k,c,d⟩:=ae;refine⟨{state:=.ready,pending:=none,fn:=key/64,tmps:=#[],params:=k,assign:=c,body:=d,defers:=0},?_,rfl,rfl,rfl,rfl⟩;rw[o];simp only[mK,Ez,ak,j,n,A,f,e,er]
    ·cases h
  ·cases h
 ·cases h
theorem ax7(m:P.follows .mixedOrders=true)(p:ρ.nC=mK P)(o:rB P ρ E)(n:Nat):acG P ρ (PZ P E n):=by
 refine⟨fun key w l d g=>?_⟩;rw[p]at g;unfold PZ at d;split at d
 ·rename_i cl c;cases d;unfold aeK at c;split at c
  ·rename_i av u a b j;cases e:u.toList.all (fun t=>decide (t<av))with
   |false=>rw[e]at c;simp at c
   |true=>
    rw[e]at c;simp only[er]at c;split at c
    ·rename_i x y q r;cases c;simp only[mK,j,cb]at g;subst g;refine⟨rfl,fun t ah=>(by simpa using hs.1 e t ah),fun bo=>⟨xB m o (f:=key/64) a none x (fun key h=>by cases h) q,xB m o (f:=key/64) b (some (key+1)) y (fun k h i ae s=>?_) r⟩⟩;cases h;exact ax8 p j s
    ·cases c
  ·cases c
 ·cases d
end
section
variable {P:Program} {ρ:b4}
theorem atL{f:FuncId}{fn:Func}{body:Code}{av:Nat}{rs:List rR}{F:jH}(t:P.funcs[f]? =some fn)(A:fn.body=some body)(zC:fn.ntmps=av)(dx:av<=256)(uh:I0 P av fn.results.toList rs) {B:bl->lr->Prop}(X:∀σ,B σ ⟨f,.normal,none⟩)(ck:mc P ρ av B body F){σ:bl}{args:List K}{h:ay}{v:K}{o:ay}{cs:List Value}{w:World}(T:jE P σ)(h8:bU ρ σ args=some cs)(Y:c6 ρ σ h w)(J:Ba av rs F args h=some (v,o)): Calls P f cs.toArray w fun e w'=>∃c,e=.returned c/\oc ρ σ h w v o c w':=by
 unfold Ba at J;cases r:Nat.ble args.length av with
 |false=>rw[r]at J;simp at J
 |true=>
  rw[r]at J;simp only[er]at J;have N:=gP r;intro g;have Q:Frame.enter P f cs.toArray .normal=fr ⟨f,.normal,none⟩ (cs.toArray++Array.replicate (av-cs.toArray.size) undef) [] [.code body]:=by simp[Frame.enter,fr,t,A,zC]
  rw[Q];have eE:xn P ρ av σ ⟨vw args 0 bX,h,[]⟩ (cs.toArray++Array.replicate (av-cs.toArray.size) undef) [] w:=⟨.g7 h8 N dx,Y,rfl,T⟩;have D:∀(e:aD) (x:gp),(∀id,e≠ .exit id)->F ⟨vw args 0 bX,h,[]⟩=some (e,x)->A_ rs x=some (v,o)->
    ∃(e:Ending) (w':World) (q:Frame),(∃c,e=.returned c/\oc ρ σ h w v o c w')/\Comes P (lone (fr ⟨f,.normal,none⟩ (cs.toArray++Array.replicate (av-cs.toArray.size) undef) [] [.code body]) g w) (lone q g w') e/\q.fn=f/\q.leaving P w' e:=fun e x W j d=>by
   obtain⟨C,bO,m2,V,n,S,b2⟩:=ck σ _ e x j ⟨f,.normal,none⟩ (X _) [] g _ [] w eE;have O:∃todo,Steps P (lone (fr ⟨f,.normal,none⟩ (cs.toArray++Array.replicate (av-cs.toArray.size) undef) [] [.code body]) g w) (lone (wl ⟨f,.normal,none⟩ bO m2 todo) g V):=by
    cases e with
    |hD=>exact⟨[],rv b2 (.one (ams rfl))⟩
    |exit id=>exact(W id rfl).elim
    |ret=>obtain⟨eb,cL⟩:=b2;exact⟨.code .ret::eb,rv cL (.one (amw rfl))⟩
   obtain⟨todo,h_⟩:=O;unfold A_ at d;split at d
   ·rename_i I L;obtain⟨i,s,Z,ep⟩:=aar (P:=P) (b:=⟨f,.normal,none⟩) (a:=bO) (k:=todo) (cs:=g) L n.d n.h;split at d
    ·rename_i vs R;simp only[cb,g9]at d;obtain⟨rfl,rfl⟩:=d;obtain⟨E,u1,u2⟩:=Yl n.g n.s s uh R;have dh:=me u1;have U:(fn.results.mapM (Ho bO):Sem (Array Value)).run P i=.ok E.toArray i:=by rw[aaQ];simp only[aaY];rw[u2];rfl
     have d:∃u,aE ρ C (Er vs)=some u/\(results fn bO).run P i=.ok u i:=by
      rw[alC];simp only[d'];rw[U];simp only[dX,eQ]
      match vs,E,u1,dh with
      |[y],[u],u1,_=>obtain⟨z,M,cw⟩:=iW u1;cases cw;exact⟨u,M,am⟩
      |[],[],u1,_=>exact⟨.tuple #[],by simp[Er,aE,bU],am⟩
      |y::mN::l,u::z::m,u1,_=>exact⟨.tuple (u::z::m).toArray,by simp[Er,aE,u1],am⟩
     obtain⟨u,G,H⟩:=d;exact⟨.returned u,i,_,⟨u,rfl,C,G,s,S.trans Z⟩,rv h_ ep,rfl,⟨rfl,rfl,rfl,fn,t,H⟩⟩
    ·cases d
   ·cases d
  split at J
  ·rename_i x j;exact D .hD x (fun id ak=>by cases ak) j J
  ·rename_i x j;exact D .ret x (fun id ak=>by cases ak) j J
  ·cases J
theorem asy(r:P.follows .mixedOrders=true)(y:ρ.nC=mK P){E:iN}(t:rB P ρ E){f:FuncId}{d:ps}(h:F2 P f=some d)(n:Nat){σ:bl}{args:List K}{ag:ay}{v:K}{l:ay}{cs:List Value}{w:World}(q:jE P σ)(C:bU ρ σ args=some cs)(s:c6 ρ σ ag w)(J:Ba d.av d.rs (sv E n none d.c) args ag=some (v,l)): Calls P f cs.toArray w fun e w'=>∃c,e=.returned c/\oc ρ σ ag w v l c w':=by
 unfold F2 at h;split at h
 ·rename_i fn m;split at h
  ·rename_i body A;cases g:((fn.name != "runtime.NumGoroutine")&&Nat.ble fn.ntmps 256&&Nat.ble (hk body).length 64)with
   |false=>rw[g]at h;simp at h
   |true=>
    rw[g]at h;simp only[er]at h;simp only[dz]at g;obtain⟨⟨H,I⟩,j⟩:=g;have j:=gP j;split at h
    ·rename_i rs c D u;cases h;refine atL m A rfl (gP I) (Oo D) (B:=rz f none) (fun _=>⟨rfl,rfl⟩) (xB r t (f:=f) body (some (um f)) c ?_ u) q C s J;intro key o i x k;cases o;have hi:i<(hk body).length:=(j2.1 k).1;have ak:(um f+i)/64=f:=by unfold um;omega
     have p:(um f+i)%64=i:=by unfold um;omega
     obtain⟨z,a,b⟩:=x;refine⟨{state:=.ready,pending:=none,fn:=f,tmps:=#[],params:=z,assign:=a,body:=b,defers:=0},?_,rfl,rfl,rfl,rfl⟩;rw[y];simp only[mK,Ez,ak,p,m,A,k,H0 j,er]
    ·cases h
  ·cases h
 ·cases h
end
end Go.ch
namespace Go.ch
inductive dU where
 |fail
 |hD (x:gp)
 |exit (id:Nat) (x:gp)
 |ret (x:gp)
def dU.i2:dU->Option (aD×gp)
 |.fail=>none
 |.hD x=>some (.hD,x)
 |.exit id x=>some (.exit id,x)
 |.ret x=>some (.ret,x)
def Rf{b:Type}(a:b):b:=a
noncomputable def aBT:K->Bool:= @K.rec (fun _=>Bool) (fun _=>Unit) (fun _ _=>true) (fun _=>true) (fun _=>true) (fun _ _=>true) true (fun _ _ _ _ _=>true) true (fun _=>true) true (fun _ _ _ _ _=>true) (fun _=>true) true (fun _ _ _=>true) true (fun _ _=>true) (fun _ _=>true) (fun _=>true) (fun _ _ _ _=>true) () (fun _ _ _ _=>())
noncomputable def Ac(v:K):Bool:=aBT v
noncomputable def azT:K->(IntKind->Int->Option K)->Option K:= @K.rec (fun _=>(IntKind->Int->Option K)->Option K) (fun _=>Unit) (fun b a k=>k b a) (fun _ _=>none) (fun _ _=>none) (fun _ _ _=>none) (fun _=>none) (fun _ _ _ _ _ _=>none) (fun _=>none) (fun _ _=>none) (fun _=>none) (fun _ _ _ _ _ _=>none) (fun _ _=>none) (fun _=>none) (fun _ _ _ _=>none) (fun _=>none) (fun _ _ _=>none) (fun _ _ _=>none) (fun _ _=>none) (fun _ _ _ _ _=>none) () (fun _ _ _ _=>())
noncomputable def Eo(v:K)(k:IntKind->Int->Option K):Option K:=azT v k
noncomputable def azP:K->(Bool->Option K)->Option K:= @K.rec (fun _=>(Bool->Option K)->Option K) (fun _=>Unit) (fun _ _ _=>none) (fun a k=>k a) (fun _ _=>none) (fun _ _ _=>none) (fun _=>none) (fun _ _ _ _ _ _=>none) (fun _=>none) (fun _ _=>none) (fun _=>none) (fun _ _ _ _ _ _=>none) (fun _ _=>none) (fun _=>none) (fun _ _ _ _=>none) (fun _=>none) (fun _ _ _=>none) (fun _ _ _=>none) (fun _ _=>none) (fun _ _ _ _ _=>none) () (fun _ _ _ _=>())
noncomputable def akG(v:K)(k:Bool->Option K):Option K:=azP v k
noncomputable def azU:K->(Nat->Nat->Option K)->Option K:= @K.rec (fun _=>(Nat->Nat->Option K)->Option K) (fun _=>Unit) (fun _ _ _=>none) (fun _ _=>none) (fun _ _=>none) (fun b a k=>k b a) (fun _=>none) (fun _ _ _ _ _ _=>none) (fun _=>none) (fun _ _=>none) (fun _=>none) (fun _ _ _ _ _ _=>none) (fun _ _=>none) (fun _=>none) (fun _ _ _ _=>none) (fun _=>none) (fun _ _ _=>none) (fun _ _ _=>none) (fun _ _=>none) (fun _ _ _ _ _=>none) () (fun _ _ _ _=>())
noncomputable def X4(v:K)(k:Nat->Nat->Option K):Option K:=azU v k
noncomputable def azX:K->(List Nat->Option K)->Option K:= @K.rec (fun _=>(List Nat->Option K)->Option K) (fun _=>Unit) (fun _ _ _=>none) (fun _ _=>none) (fun a k=>k a) (fun _ _ _=>none) (fun _=>none) (fun _ _ _ _ _ _=>none) (fun _=>none) (fun _ _=>none) (fun _=>none) (fun _ _ _ _ _ _=>none) (fun _ _=>none) (fun _=>none) (fun _ _ _ _=>none) (fun _=>none) (fun _ _ _=>none) (fun _ _ _=>none) (fun _ _=>none) (fun _ _ _ _ _=>none) () (fun _ _ _ _=>())
noncomputable def LS(v:K)(k:List Nat->Option K):Option K:=azX v k
noncomputable def azR:K->(Bool->dU)->dU:= @K.rec (fun _=>(Bool->dU)->dU) (fun _=>Unit) (fun _ _ _=>.fail) (fun a k=>k a) (fun _ _=>.fail) (fun _ _ _=>.fail) (fun _=>.fail) (fun _ _ _ _ _ _=>.fail) (fun _=>.fail) (fun _ _=>.fail) (fun _=>.fail) (fun _ _ _ _ _ _=>.fail) (fun _ _=>.fail) (fun _=>.fail) (fun _ _ _ _=>.fail) (fun _=>.fail) (fun _ _ _=>.fail) (fun _ _ _=>.fail) (fun _ _=>.fail) (fun _ _ _ _ _=>.fail) () (fun _ _ _ _=>())
noncomputable def azQ(v:K)(k:Bool->dU):dU:=azR v k
noncomputable def ak7(c a b:K):Option K:=akG c fun t=> @Bool.rec (fun _=>Option K) (@Bool.rec (fun _=>Option K) none (some b) (Ac b)) (@Bool.rec (fun _=>Option K) none (some a) (Ac a)) t
noncomputable def U3(l:List Nat)(m:Nat):Option Nat:= @List.rec Nat (fun _=>Nat->Option Nat) (fun _=>none) (fun a _ b m=> @Nat.rec (fun _=>Option Nat) (some a) (fun p _=>b p) m) l m
theorem afE:∀(l:List Nat) (m:Nat),U3 l m=l[m]?
 |[],m=>rfl
 |a::l,0=>rfl
 |a::l,m+1=>by show U3 l m=_;rw[afE l m];simp
noncomputable def Xc(l:List Nat):Nat:= @List.rec Nat (fun _=>Nat) 0 (fun _ _ a=>Nat.succ a) l
theorem aiz:∀(l:List Nat),Xc l=l.length
 |[]=>rfl
 |a::l=>by show Nat.succ (Xc l)=_;rw[aiz l];simp
noncomputable def QZ(l:List Nat):List Nat->Bool:= @List.rec Nat (fun _=>List Nat->Bool) (fun m=> @List.rec Nat (fun _=>Bool) true (fun _ _ _=>false) m) (fun a _ c m=> @List.rec Nat (fun _=>Bool) false (fun b m _=> @Bool.rec (fun _=>Bool) false (c m) (Nat.beq a b)) m) l
theorem Yx:∀(l m:List Nat),QZ l m=tk l m
 |[],[]=>rfl
 |[],_::_=>rfl
 |_::_,[]=>rfl
 |a::l,b::m=>by
  show @Bool.rec (fun _=>Bool) false (QZ l m) (Nat.beq a b)=_
  rw[tk,Yx l m]
  cases Nat.beq a b<;>rfl
noncomputable def ah2(s i:K):Option K:=LS s fun l=>Eo i fun _ n=> @Int.rec (fun _=>Option K) (fun m=> @Option.rec Nat (fun _=>Option K) none (fun b=>some (.int .u8 (.ofNat b))) (U3 l m)) (fun _=>none) n
noncomputable def aiA(s:K):Option K:=LS s fun l=>sr (Xc l)
noncomputable def afk(off:Nat)(p:K):Option K:=X4 p fun b o=>uw (Nat.add o off) fun q=>some (.jo b q)
noncomputable def LB(a b:Int):Bool:= @Int.rec (fun _=>Bool) (fun m=> @Int.rec (fun _=>Bool) (fun n=>Nat.blt m n) (fun _=>ta a b) b) (fun _=>ta a b) a
theorem ayc(a b:Int):LB a b=ta a b:=by cases a<;>cases b<;>rfl
noncomputable def Uy(a b:Int):Bool:= @Int.rec (fun _=>Bool) (fun m=> @Int.rec (fun _=>Bool) (fun n=>Nat.beq m n) (fun _=>uZ a b) b) (fun _=>uZ a b) a
theorem as'(a b:Int):Uy a b=uZ a b:=by cases a<;>cases b<;>rfl
inductive w_ where
 |eql
 |neq
 |lss
 |leq
 |gtr
 |geq
def w_.op:w_->BinOp
 |.eql=>.eql
 |.neq=>.neq
 |.lss=>.lss
 |.leq=>.leq
 |.gtr=>.gtr
 |.geq=>.geq
noncomputable def BT(b:Bool):Bool:= @Bool.rec (fun _=>Bool) true false b
theorem aks(b:Bool):BT b= !b:=by cases b<;>rfl
noncomputable def aec(c:w_):Int->Int->Bool:= @w_.rec (fun _=>Int->Int->Bool) (fun a b=>Uy a b) (fun a b=>BT (Uy a b)) (fun a b=>LB a b) (fun a b=>BT (LB b a)) (fun a b=>LB b a) (fun a b=>BT (LB a b)) c
noncomputable def N5(b:Bool):Option K:= @Bool.rec (fun _=>Option K) (some (.bool false)) (some (.bool true)) b
theorem TA(b:Bool):N5 b=some (.bool b):=by cases b<;>rfl
noncomputable def ain:IntKind->Nat:= @IntKind.rec (fun _=>Nat) 0 1 2 3 4 5 6 7
noncomputable def Sc(a b:IntKind):Bool:=Nat.beq (ain a) (ain b)
theorem aim{a b:IntKind}(h:Sc a b=true):a=b:=by cases a<;>cases b<;>first|rfl|cases h
noncomputable def aeb(c:w_)(x y:K):Option K:=Eo x fun j a=>Eo y fun k b=> @Bool.rec (fun _=>Option K) none (N5 (aec c a b)) (Sc j k)
noncomputable def afd(neg:Bool)(x y:K):Option K:=LS x fun a=>LS y fun b=> @Bool.rec (fun _=>Option K) (N5 (QZ a b)) (N5 (BT (QZ a b))) neg
noncomputable def ay6:K->Option K:= @K.rec (fun _=>Option K) (fun _=>Unit) (fun _ _=>none) (fun _=>none) (fun _=>none) (fun b o=>some (.jo b o)) none (fun _ _ _ _ _=>none) none (fun _=>none) none (fun f x y _ _=>some (.fn f x y)) (fun b=>some (.rt b)) none (fun t v _=>some (.iface t v)) none (fun _ _=>none) (fun _ _=>none) (fun _=>none) (fun _ _ _ _=>none) () (fun _ _ _ _=>())
noncomputable def akq(v:K):Option K:=ay6 v
noncomputable def axO:K->Option K:= @K.rec (fun _=>Option K) (fun _=>Unit) (fun _ _=>none) (fun _=>none) (fun _=>none) (fun _ _=>none) none (fun _ _ n _ _=>sr n) (sr 0) (fun _=>none) none (fun _ _ _ _ _=>none) (fun _=>none) none (fun _ _ _=>none) none (fun _ _=>none) (fun _ _=>none) (fun _=>none) (fun _ _ _ _=>sr 0) () (fun _ _ _ _=>())
noncomputable def aiy(v:K):Option K:=axO v
noncomputable def azV:K->(Nat->Nat->Nat->Option K)->Option K:= @K.rec (fun _=>(Nat->Nat->Nat->Option K)->Option K) (fun _=>Unit) (fun _ _=>fun _=>none) (fun _=>fun _=>none) (fun _=>fun _=>none) (fun _ _=>fun _=>none) (fun _=>none) (fun b o n _ _ k=>k b o n) (fun _=>none) (fun _=>fun _=>none) (fun _=>none) (fun _ _ _ _ _=>fun _=>none) (fun _=>fun _=>none) (fun _=>none) (fun _ _ _=>fun _=>none) (fun _=>none) (fun _ _=>fun _=>none) (fun _ _=>fun _=>none) (fun _=>fun _=>none) (fun _ _ _ _=>fun _=>none) () (fun _ _ _ _=>())
noncomputable def akI(v:K)(k:Nat->Nat->Nat->Option K):Option K:=azV v k
noncomputable def adB(x y:K):Option K:=Eo x fun j a=>Eo y fun k b=> @Bool.rec (fun _=>Option K) none (sk j (Tg a b)) (Sc j k)
noncomputable def ahZ(n:Nat)(x y:K):Option K:=akI x fun b o len=>Eo y fun _ i=> @Int.rec (fun _=>Option K) (fun m=> @Bool.rec (fun _=>Option K) none (uw (o+m*n) fun q=>some (.jo b q)) (Nat.blt m len)) (fun _=>none) i
noncomputable def Ka(l:List K)(m:Nat):Option K:= @List.rec K (fun _=>Nat->Option K) (fun _=>none) (fun a _ b m=> @Nat.rec (fun _=>Option K) (some a) (fun p _=>b p) m) l m
theorem U2:∀(l:List K) (m:Nat),Ka l m=l[m]?
 |[],m=>rfl
 |a::l,0=>rfl
 |a::l,m+1=>by show Ka l m=_;rw[U2 l m];simp
noncomputable def arD:em->(List K->Option K)->Option K:= @em.rec (fun _=>(List K->Option K)->Option K) (fun _ vs _ _ k=>k vs) (fun _ _ _=>none) (fun _ _ _ _ _=>none) (fun _ _ _ _ _ _ _=>none) (fun _=>none) (fun _ vs k=>k vs)
noncomputable def OJ:T em->Nat->Option em:= @T.rec em (fun _=>Nat->Option em) (fun _=>none) (fun v _ _ b a k=> @Bool.rec (fun _=>Option em) (@Bool.rec (fun _=>Option em) (a (Nat.sub (Nat.div k 2) 1)) (b (Nat.div k 2)) (Nat.beq (Nat.mod k 2) 1)) v (Nat.beq k 0))
theorem U4:∀(t:T em) (k:Nat),OJ t k=t.cK k
 |.e,k=>rfl
 |.n v l r,k=>by
  show @Bool.rec (fun _=>Option em) (@Bool.rec (fun _=>Option em) (OJ r (Nat.sub (Nat.div k 2) 1)) (OJ l (Nat.div k 2)) (Nat.beq (Nat.mod k 2) 1)) v (Nat.beq k 0)=_
  rw[T.cK,U4 l,U4 r]
  cases Nat.beq k 0<;>cases Nat.beq (Nat.mod k 2) 1<;>rfl
noncomputable def aiw(x:K)(h:ay):Option K:=X4 x fun b off=> @Option.rec em (fun _=>Option K) none (fun q=>arD q fun vs=>Ka vs off) (OJ h.t b)
inductive iP where
 |gen (c:hH)
 |XK (d:Nat) (x:S->K)
 |U7 (lF:S->K) (hr:Bool) (d:Nat) (x:S->K)
 |pick (dQ:Option ((S->K)×Bool)) (d:Option Nat) (c x y:S->K)
 |TT (dQ:Option ((S->K)×Bool)) (d:Option Nat) (c:w_) (x y:S->K)
 |OD (dQ:Option ((S->K)×Bool)) (d:Option Nat) (neg:Bool) (x y:S->K)
 |index (dQ:Option ((S->K)×Bool)) (d:Option Nat) (x y:S->K)
 |Xd (dQ:Option ((S->K)×Bool)) (d:Option Nat) (x:S->K)
 |field (dQ:Option ((S->K)×Bool)) (d:Option Nat) (off:Nat) (x:S->K)
 |XP (dQ:Option ((S->K)×Bool)) (d:Option Nat) (x:S->K)
 |Xa (dQ:Option ((S->K)×Bool)) (d:Option Nat) (x:S->K)
 |add (dQ:Option ((S->K)×Bool)) (d:Option Nat) (x y:S->K)
 |WP (dQ:Option ((S->K)×Bool)) (d:Option Nat) (n:Nat) (x y:S->K)
 |Lu (dQ:Option ((S->K)×Bool)) (d:Option Nat) (n:Nat) (x:S->K)
def iP.rq:iP->hH
 |.gen c=>c
 |.XK d x=>⟨none,some d,[x],.oN (.pure zV)⟩
 |.U7 b a d x=>⟨some (b,a),some d,[x],.oN (.pure zV)⟩
 |.pick dQ d c x y=>⟨dQ,d,[c,x,y],.oN (.pure LX)⟩
 |.TT dQ d c x y=>⟨dQ,d,[x,y],.oN (.pure (sO c.op))⟩
 |.OD dQ d neg x y=>⟨dQ,d,[x,y],.oN (.pure (sO (bif neg then .neq else .eql)))⟩
 |.index dQ d x y=>⟨dQ,d,[x,y],.oN (.pure GW)⟩
 |.Xd dQ d x=>⟨dQ,d,[x],.oN (.pure Lw)⟩
 |.field dQ d off x=>⟨dQ,d,[x],.oN (.pure (J9 off))⟩
 |.XP dQ d x=>⟨dQ,d,[x],.oN (.pure LM)⟩
 |.Xa dQ d x=>⟨dQ,d,[x],.oN (.pure Lv)⟩
 |.add dQ d x y=>⟨dQ,d,[x,y],.oN (.pure (sO .add))⟩
 |.WP dQ d n x y=>⟨dQ,d,[x,y],.oN (.pure (GV n))⟩
 |.Lu dQ d n x=>⟨dQ,d,[x],.oN (.qv (BN false n))⟩
noncomputable def QH(d:Option Nat)(v:K)(s:S):S:= @Option.rec Nat (fun _=>S) s (fun d=>put d v s) d
theorem X'(d:Option Nat)(v:K)(s:S):QH d v s=oL d v s:=by cases d<;>rfl
noncomputable def at1:K->Bool->(Bool->dU)->dU:= @K.rec (fun _=>Bool->(Bool->dU)->dU) (fun _=>Unit) (fun _ _ _ k=>k false) (fun b w k=>k (@Bool.rec (fun _=>Bool) (BT w) w b)) (fun _ _ k=>k false) (fun _ _ _ k=>k false) (fun _ k=>k false) (fun _ _ _ _ _ _ k=>k false) (fun _ k=>k false) (fun _ _ k=>k false) (fun _ k=>k false) (fun _ _ _ _ _ _ k=>k false) (fun _ _ k=>k false) (fun _ k=>k false) (fun _ _ _ _ k=>k false) (fun _ k=>k false) (fun _ _ _ k=>k false) (fun _ _ _ k=>k false) (fun _ _ _=>.fail) (fun _ _ _ _ _ k=>k false) () (fun _ _ _ _=>())
noncomputable def ON(v:K)(a:Bool)(k:Bool->dU):dU:=at1 v a k
theorem at2(v:K)(a:Bool)(k:Bool->dU):ON v a k= @Option.rec Bool (fun _=>dU) .fail k (xE v a):=by
 cases v<;>first|rfl|(rename_i b;cases b<;>cases a<;>rfl)
noncomputable def OI(dQ:Option ((S->K)×Bool))(d:Option Nat)(s:S)(h:ay)(k:S->ay->dU)(go:dU):dU:=
 @Option.rec _ (fun _=>dU) go (fun p=>ON (p.1 s) p.2 fun b=> @Bool.rec (fun _=>dU) (k (QH d pz s) h) go b) dQ
noncomputable def te(dQ:Option ((S->K)×Bool))(d:Option Nat)(s:S)(h:ay)(k:S->ay->dU)(r:Option K):dU:=
 OI dQ d s h k (@Option.rec K (fun _=>dU) .fail (fun v=>k (QH d v s) h) r)
noncomputable def aaw(aK:List (S->K))(s:S):List K:= @List.rec _ (fun _=>List K) [] (fun x _ a=>x s::a) aK
theorem am2(s:S):∀(aK:List (S->K)),aaw aK s=mm aK s
 |[]=>rfl
 |x::l=>by show x s::aaw l s=_;rw[am2 s l];rfl
noncomputable def atR(c:hH)(E:iN)(s:S)(h:ay)(k:S->ay->dU):dU:=OI c.guard c.dst s h k (@Option.rec _ (fun _=>dU) .fail (fun r=>k (QH c.dst r.1 s) r.2) (zf E c.k (aaw c.aK s) h))
noncomputable def aC8:iP->iN->S->ay->(S->ay->dU)->dU:=
 @iP.rec (fun _=>iN->S->ay->(S->ay->dU)->dU) atR
  (fun d x _ s h k=> @Bool.rec (fun _=>dU) .fail (k (put d (x s) s) h) (Ac (x s)))
  (fun e a d x _ s h k=>ON (e s) a fun b=> @Bool.rec (fun _=>dU) (k (put d pz s) h) (@Bool.rec (fun _=>dU) .fail (k (put d (x s) s) h) (Ac (x s))) b)
  (fun dQ d c x y _ s h k=>te dQ d s h k (ak7 (c s) (x s) (y s)))
  (fun dQ d c x y _ s h k=>te dQ d s h k (aeb c (x s) (y s)))
  (fun dQ d neg x y _ s h k=>te dQ d s h k (afd neg (x s) (y s)))
  (fun dQ d x y _ s h k=>te dQ d s h k (ah2 (x s) (y s)))
  (fun dQ d x _ s h k=>te dQ d s h k (aiA (x s)))
  (fun dQ d off x _ s h k=>te dQ d s h k (afk off (x s)))
  (fun dQ d x _ s h k=>te dQ d s h k (akq (x s)))
  (fun dQ d x _ s h k=>te dQ d s h k (aiy (x s)))
  (fun dQ d x y _ s h k=>te dQ d s h k (adB (x s) (y s)))
  (fun dQ d n x y _ s h k=>te dQ d s h k (ahZ n (x s) (y s)))
  (fun dQ d _ x _ s h k=>te dQ d s h k (aiw (x s) h))
noncomputable def amy(E:iN)(o:iP)(s:S)(h:ay)(k:S->ay->dU):dU:=aC8 o E s h k
noncomputable def alZ(E:iN)(l:List iP):S->ay->(S->ay->dU)->dU:=
 @List.rec iP (fun _=>S->ay->(S->ay->dU)->dU) (fun s h k=>k s h) (fun o _ a s h k=>amy E o s h fun s h=>a s h k) l
section
variable {E:iN}
theorem Qv{t:Bool}{a b:dU}{r:aD×gp}(h:(@Bool.rec (fun _=>dU) a b t).i2=some r):(t=true/\b.i2=some r)∨(t=false/\a.i2=some r):=by
 cases t
 ·exact .inr ⟨rfl,h⟩
 ·exact .inl ⟨rfl,h⟩
theorem afB{dQ:Option ((S->K)×Bool)}{d:Option Nat}{s:S}{h:ay}{k:S->ay->dU}{go:dU}{aK:List (S->K)}{op:v_}{l:List hH}{r:aD×gp}{F:S×ay->Option (aD×gp)} (j:∀s h,(k s h).i2=some r->(nG E l s h).bind F=some r)(c:go.i2=some r->((zf E op (mm aK s) h).bind fun q=>(nG E l (oL d q.1 s) q.2).bind F)=some r) (e:(OI dQ d s h k go).i2=some r):(nG E (⟨dQ,d,aK,op⟩::l) s h).bind F=some r:=by
 simp only[nG];have i:∀q,q=(zf E op (mm aK s) h)->(q.bind fun q=>(nG E l (oL d q.1 s) q.2).bind F)=some r->Option.bind (match q with|some (v,g)=>nG E l (oL d v s) g|none=>none) F=some r:=fun q _ f=>by
  cases q with
  |none=>simp at f
  |some q=>obtain⟨v,g⟩:=q;simpa using f
 cases dQ with
 |none=>exact i _ rfl (c e)
 |some p=>
  obtain⟨x,m⟩:=p;simp only[OI,at2]at e;cases a:xE (x s) m with
  |none=>rw[a]at e;simp[dU.i2]at e
  |some b=>
   rw[a]at e;simp only[a];cases b with
   |false=>simp only at e⊢;rw[X']at e;exact j _ _ e
   |true=>simp only at e⊢;exact i _ rfl (c e)
theorem yg{dQ:Option ((S->K)×Bool)}{d:Option Nat}{s:S}{h:ay}{k:S->ay->dU}{v:Option K}{aK:List (S->K)}{f:List K->Option K}{l:List hH}{r:aD×gp}{F:S×ay->Option (aD×gp)} (J:∀u,v=some u->f (mm aK s)=some u)(Q:∀s h,(k s h).i2=some r->(nG E l s h).bind F=some r) (e:(te dQ d s h k v).i2=some r):(nG E (⟨dQ,d,aK,.oN (.pure f)⟩::l) s h).bind F=some r:=by
 exact ajq
theorem Hb{v:K}{k:IntKind->Int->Option K}{u:K}(h:Eo v k=some u):∃j n,v=.int j n/\k j n=some u:=by
 cases v<;>first|exact⟨_,_,rfl,h⟩|cases h
theorem azS{v:K}{k:Bool->Option K}{u:K}(h:akG v k=some u):∃b,v=.bool b/\k b=some u:=by
 cases v<;>first|exact⟨_,rfl,h⟩|cases h
theorem akH{v:K}{k:Nat->Nat->Option K}{u:K}(h:X4 v k=some u):∃b o,v=.jo b o/\k b o=some u:=by
 cases v<;>first|exact⟨_,_,rfl,h⟩|cases h
theorem Qt{v:K}{k:List Nat->Option K}{u:K}(h:LS v k=some u):∃s,v=.str s/\k s=some u:=by
 cases v<;>first|exact⟨_,rfl,h⟩|cases h
theorem L9{t:Bool}{a:Option K}{u:K}(h: @Bool.rec (fun _=>Option K) none a t=some u):t=true/\a=some u:=by
 cases t
 ·cases h
 ·exact⟨rfl,h⟩
theorem aAu{c a b u:K}(ab:ak7 c a b=some u):LX [c,a,b]=some u:=by
 obtain⟨t,rfl,h⟩:=azS ab;cases t
 ·exact(L9 h).2
 ·exact(L9 h).2
theorem arK{c:w_}{x y u:K}(ab:aeb c x y=some u):sO c.op [x,y]=some u:=by
 obtain⟨j,a,rfl,H⟩:=Hb ab;obtain⟨k,b,rfl,I⟩:=Hb (v:=y) H;obtain⟨f,d⟩:=L9 I;rw[TA]at d;have e:decide (j=k)=true:=by simp[aim f]
 cases c<;>simp only[sO,w_.op,BJ,iK,e,er,Jh]<;>rw[←d]<;>simp[aec,aks,ayc,as']
theorem atd{neg:Bool}{x y u:K}(ab:afd neg x y=some u):sO (bif neg then .neq else .eql) [x,y]=some u:=by
 obtain⟨a,rfl,H⟩:=Qt ab;obtain⟨b,rfl,I⟩:=Qt (v:=y) H;cases neg
 ·simp only[TA]at I;rw[←I];simp[sO,Ji,Yx]
 ·simp only[TA]at I;rw[←I];simp[sO,Ji,Yx,aks]
theorem aw5{x y u:K}(ab:ah2 x y=some u):GW [x,y]=some u:=by
 obtain⟨l,rfl,H⟩:=Qt ab;obtain⟨j,n,rfl,h⟩:=Hb (v:=y) H;cases n with
 |ofNat m=>
  simp only[afE]at h;simp only[GW];cases a:l[m]? with
  |none=>rw[a]at h;cases h
  |some b=>rw[a]at h;simpa[yr]using h
 |negSucc m=>cases h
theorem axS{x u:K}(ab:aiA x=some u):Lw [x]=some u:=by
 obtain⟨l,rfl,h⟩:=Qt ab;rw[aiz]at h;exact h
theorem atx{off:Nat}{x u:K}(ab:afk off x=some u):J9 off [x]=some u:=by
 obtain⟨b,o,rfl,h⟩:=akH ab;rw[yr]at h;exact h
theorem ay7{x u:K}(h:akq x=some u):LM [x]=some u:=by cases x<;>first|exact h|cases h
theorem axP{x u:K}(h:aiy x=some u):Lv [x]=some u:=by cases x<;>first|exact h|cases h
theorem aqI{x y u:K}(ab:adB x y=some u):sO .add [x,y]=some u:=by
 obtain⟨j,a,rfl,H⟩:=Hb ab;obtain⟨k,b,rfl,I⟩:=Hb (v:=y) H;obtain⟨c,d⟩:=L9 I;have c:=aim c;subst c;simpa[sO,BJ,Jh]using d
theorem azW{v:K}{k:Nat->Nat->Nat->Option K}{u:K}(h:akI v k=some u):∃b o n e c,v=.slice b o n e c/\k b o n=some u:=by
 cases v<;>first|exact⟨_,_,_,_,_,rfl,h⟩|cases h
theorem aw0{n:Nat}{x y u:K}(ab:ahZ n x y=some u):GV n [x,y]=some u:=by
 obtain⟨b,o,len,e,c,rfl,H⟩:=azW ab;obtain⟨k,i,rfl,I⟩:=Hb (v:=y) H;cases i with
 |ofNat m=>obtain⟨d,a⟩:=L9 I;simp only[GV,d,er];exact a
 |negSucc m=>cases I
theorem axM{n:Nat}{x u:K}{h:ay}(ab:aiw x h=some u):BN false n [x] h=some u:=by
 obtain⟨b,off,rfl,H⟩:=akH ab;simp only[U4]at H;have c:h.cK b=h.t.cK b:=rfl;simp only[BN,c];cases a:h.t.cK b with
 |none=>rw[a]at H;cases H
 |some q=>
  rw[a]at H;cases q<;>first|(cases H;done)|skip
  ·rename_i d vs e wr;have I:Ka vs off=some u:=H;rw[U2]at I;simpa using I
  ·rename_i d vs;have I:Ka vs off=some u:=H;rw[U2]at I;simpa using I
theorem axY{dQ:Option ((S->K)×Bool)}{d:Option Nat}{s:S}{h:ay}{k:S->ay->dU}{v:Option K}{aK:List (S->K)}{f:List K->ay->Option K}{l:List hH}{r:aD×gp}{F:S×ay->Option (aD×gp)} (J:∀u,v=some u->f (mm aK s) h=some u)(Q:∀s h,(k s h).i2=some r->(nG E l s h).bind F=some r) (e:(te dQ d s h k v).i2=some r):(nG E (⟨dQ,d,aK,.oN (.qv f)⟩::l) s h).bind F=some r:=by
 exact ajq
theorem aC_{o:iP}{l:List hH}{s:S}{h:ay}{k:S->ay->dU}{r:aD×gp}{F:S×ay->Option (aD×gp)}(a:∀s h,(k s h).i2=some r->(nG E l s h).bind F=some r) (e:(amy E o s h k).i2=some r):(nG E (o.rq::l) s h).bind F=some r:=by
 cases o with
 |gen c=>
  obtain⟨dQ,d,aK,op⟩:=c;refine afB a (fun g=>?_) e;simp only[am2]at g;cases t:zf E op (mm aK s) h with
  |none=>rw[t]at g;simp[dU.i2]at g
  |some q=>rw[t]at g;simp only[X']at g;exact a _ _ g
 |XK d x=>
  rcases Qv e with⟨_,e⟩|⟨_,e⟩
  ·simp only[iP.rq,nG,mm,zf,xs,zV,oL];exact a _ _ e
  ·simp[dU.i2]at e
 |U7 w f d x=>
  have i:(ON (w s) f fun b=> @Bool.rec (fun _=>dU) (k (put d pz s) h) (@Bool.rec (fun _=>dU) .fail (k (put d (x s) s) h) (Ac (x s))) b).i2=some r:=e;simp only[iP.rq,nG,mm,zf,xs,zV,oL];cases z:w s<;>rw[z]at i<;>first|(cases i;done)|(simp only[xE];exact a _ _ i)|skip
  rename_i b;have p:(@Bool.rec (fun _=>dU) (k (put d pz s) h) (@Bool.rec (fun _=>dU) .fail (k (put d (x s) s) h) (Ac (x s))) (@Bool.rec (fun _=>Bool) (BT f) f b)).i2=some r:=i;have A:(@Bool.rec (fun _=>Bool) (BT f) f b)=(b==f):=by cases b<;>cases f<;>rfl
  rw[A]at p;rcases Qv p with⟨H,j⟩|⟨H,j⟩
  ·simp only[xE,H];rcases Qv j with⟨_,m⟩|⟨_,m⟩
   ·exact a _ _ m
   ·cases m
  ·simp only[xE,H];exact a _ _ j
 |pick dQ d c x y=>exact yg (fun u hu=>aAu hu) a e
 |TT dQ d c x y=>exact yg (fun u hu=>arK hu) a e
 |OD dQ d neg x y=>exact yg (fun u hu=>atd hu) a e
 |index dQ d x y=>exact yg (fun u hu=>aw5 hu) a e
 |Xd dQ d x=>exact yg (fun u hu=>axS hu) a e
 |field dQ d off x=>exact yg (fun u hu=>atx hu) a e
 |XP dQ d x=>exact yg (fun u hu=>ay7 hu) a e
 |Xa dQ d x=>exact yg (fun u hu=>axP hu) a e
 |add dQ d x y=>exact yg (fun u hu=>aqI hu) a e
 |WP dQ d n x y=>exact yg (fun u hu=>aw0 hu) a e
 |Lu dQ d n x=>exact axY (fun u hu=>axM hu) a e
theorem al0{r:aD×gp}{F:S×ay->Option (aD×gp)}{k:S->ay->dU}(a:∀s h,(k s h).i2=some r->F (s,h)=some r):∀{l:List iP} {s:S} {h:ay},(alZ E l s h k).i2=some r->(nG E (l.map iP.rq) s h).bind F=some r
 |[],s,h,e=>by simp only[Cq,nG,Cy];exact a _ _ e
 |o::l,s,h,e=>by
  simp only[oa]
  exact aC_ (fun s h b=>al0 a b) e
end
end Go.ch
namespace Go.ch
open Go.Proofs.Tryz
inductive uG where
 |skip
 |exit (id:Nat)
 |ret
 |seq (a b:uG)
 |cond (t:S->K) (a b:uG)
 |block (id:Nat) (a:uG)
 |loop (a:uG)
 |region (rs:List iP)
 |Dk (rs:List pr) (bW:Nat)
 |range (key av:Nat) (fE:S->K)
 |fail
def uG.Ah:uG->nL
 |.skip=>.skip
 |.exit id=>.exit id
 |.ret=>.ret
 |.seq a b=>.seq a.Ah b.Ah
 |.cond t a b=>.cond t a.Ah b.Ah
 |.block id a=>.block id a.Ah
 |.loop a=>.loop a.Ah
 |.region rs=>.region (rs.map iP.rq)
 |.Dk rs c=>.Dk rs c
 |.range key av d=>.range key av d
 |.fail=>.fail
noncomputable def Ad(q:ea K):Bool:= @ea.rec K (fun _=>Bool) (fun _ _ _ _ _ _ _ _ _ _ _ _ _ _ _ _=>true) q
noncomputable def B'(a b:Bool):Bool:= @Bool.rec (fun _=>Bool) false b a
noncomputable def Rh(s:S):Bool:=B' (Ad s.a0) (B' (Ad s.bO) (B' (Ad s.cu) (B' (Ad s.a3) (B' (Ad s.a4) (B' (Ad s.a5) (B' (Ad s.eL) (B' (Ad s.e9) (Ad s.e_))))))))
noncomputable def YG(F a:gp->dU)(x:gp):dU:= @dU.rec (fun _=>dU) .fail (fun y=>a y) (fun id y=>.exit id y) (fun y=>.ret y) (F x)
noncomputable def T4(t:S->K)(F a:gp->dU)(x:gp):dU:=azQ (t x.s) fun b=> @Bool.rec (fun _=>dU) (a x) (F x) b
noncomputable def Tz(id:Nat)(F:gp->dU)(x:gp):dU:= @dU.rec (fun _=>dU) .fail (fun y=>.hD y) (fun j y=> @Bool.rec (fun _=>dU) (.exit j y) (.hD y) (Nat.beq j id)) (fun y=>.ret y) (F x)
noncomputable def Lk(F:gp->dU)(n:Nat):gp->dU:= @Nat.rec (fun _=>gp->dU) (fun _=>.fail) (fun _ a x=> @dU.rec (fun _=>dU) .fail (fun y=> @Bool.rec (fun _=>dU) .fail (Rf (a y)) (Rh y.s)) (fun id y=>.exit id y) (fun y=>.ret y) (F x)) n
def LO:Option (aD×gp)->dU
 |none=>.fail
 |some (.hD,x)=>.hD x
 |some (.exit id,x)=>.exit id x
 |some (.ret,x)=>.ret x
theorem akx(r:Option (aD×gp)):(LO r).i2=r:=by
 rcases r with _|⟨_|_|_,x⟩<;>rfl
noncomputable def YF(E:iN)(n:Nat)(c:uG):gp->dU:=
 @uG.rec (fun _=>gp->dU) (fun x=>.hD x) (fun id x=>.exit id x) (fun x=>.ret x) (fun _ _ f g x=>YG f g x) (fun t _ _ f g x=>T4 t f g x) (fun id _ f x=>Tz id f x) (fun _ f x=>Lk f n x)
  (fun rs x=>alZ E rs x.s x.h fun s h=>.hD ⟨s,h,x.gA⟩) (fun rs a x=>LO (JT (rs.map (pr.yt E)) a x)) (fun key av b x=>LO (L6 E key av b x)) (fun _=>.fail) c
section
variable {E:iN}
theorem az2{F d:gp->dU}{e c:jH}(b:∀x r,(F x).i2=some r->e x=some r)(f:∀x r,(d x).i2=some r->c x=some r)(x:gp)(r:aD×gp)(h:(YG F d x).i2=some r):Mi e c x=some r:=by
 unfold YG at h;unfold Mi;cases a:F x with
 |fail=>rw[a]at h;cases h
 |hD y=>rw[a]at h;rw[b x (.hD,y) (by rw[a];rfl)];exact f y r h
 |exit id y=>rw[a]at h;rw[b x (.exit id,y) (by rw[a];rfl)];exact h
 |ret y=>rw[a]at h;rw[b x (.ret,y) (by rw[a];rfl)];exact h
theorem az1{t:S->K}{F c:gp->dU}{d a:jH}(f:∀x r,(F x).i2=some r->d x=some r)(e:∀x r,(c x).i2=some r->a x=some r)(x:gp)(r:aD×gp)(h:(T4 t F c x).i2=some r):JJ t d a x=some r:=by
 unfold T4 at h;unfold JJ;cases ah:t x.s<;>rw[ah]at h<;>first|cases h|skip
 rename_i b;cases b
 ·exact e x r h
 ·exact f x r h
theorem az0{id:Nat}{F:gp->dU}{c:jH}(b:∀x r,(F x).i2=some r->c x=some r)(x:gp)(r:aD×gp)(h:(Tz id F x).i2=some r):Jk id c x=some r:=by
 unfold Tz at h;unfold Jk;cases a:F x with
 |fail=>rw[a]at h;cases h
 |hD y=>rw[a]at h;rw[b x (.hD,y) (by rw[a];rfl)];exact h
 |exit j y=>
  rw[a]at h;rw[b x (.exit j,y) (by rw[a];rfl)];simp only at h⊢;cases A:Nat.beq j id with
  |false=>rw[A]at h;exact h
  |true=>rw[A]at h;exact h
 |ret y=>rw[a]at h;rw[b x (.ret,y) (by rw[a];rfl)];exact h
theorem akO{F:gp->dU}{f:jH}(e:∀x r,(F x).i2=some r->f x=some r):∀(n:Nat) (x:gp) (r:aD×gp),(Lk F n x).i2=some r->BK f n x=some r
 |0,x,r,h=>by cases h
 |n+1,x,r,h=>by
  have c:(@dU.rec (fun _=>dU) .fail (fun y=> @Bool.rec (fun _=>dU) .fail (Rf (Lk F n y)) (Rh y.s)) (fun id y=>.exit id y) (fun y=>.ret y) (F x)).i2=some r:=h
  simp only[BK]
  cases d:F x with
  |fail=>rw[d]at c;cases c
  |hD y=>
   rw[d]at c
   rw[e x (.hD,y) (by rw[d];rfl)]
   have c:(@Bool.rec (fun _=>dU) .fail (Rf (Lk F n y)) (Rh y.s)).i2=some r:=c
   rcases Qv (t:=Rh y.s) (a:=.fail) (b:=Rf (Lk F n y)) (r:=r) c with⟨_,I⟩|⟨_,I⟩
   ·exact akO e n y r I
   ·cases I
  |exit id y=>rw[d]at c;rw[e x (.exit id,y) (by rw[d];rfl)];exact c
  |ret y=>rw[d]at c;rw[e x (.ret,y) (by rw[d];rfl)];exact c
theorem B5{n:Nat}:∀(c:uG) (x:gp) (r:aD×gp),(YF E n c x).i2=some r->sv E n none c.Ah x=some r
 |.skip,x,r,h=>h
 |.exit _,x,r,h=>h
 |.ret,x,r,h=>h
 |.seq a b,x,r,h=>az2 (B5 a) (B5 b) x r h
 |.cond t a b,x,r,h=>az1 (B5 a) (B5 b) x r h
 |.block id a,x,r,h=>az0 (B5 a) x r h
 |.loop a,x,r,h=>akO (B5 a) n x r h
 |.region rs,x,r,h=>by
  have:=al0 (E:=E) (F:=fun q=>some (.hD,⟨q.1,q.2,x.gA⟩)) (k:=fun s h=>.hD ⟨s,h,x.gA⟩) (fun s h e=>e) (l:=rs) (s:=x.s) (h:=x.h) (r:=r) h
  show L_ E (rs.map iP.rq) x=some r
  unfold L_
  cases f:nG E (rs.map iP.rq) x.s x.h with
  |none=>rw[f]at this;simp at this
  |some q=>rw[f]at this;simpa using this
 |.Dk rs g,x,r,h=>by
  have d:(LO (JT (rs.map (pr.yt E)) g x)).i2=some r:=h
  rw[akx]at d
  exact d
 |.range key av i,x,r,h=>by
  have d:(LO (L6 E key av i x)).i2=some r:=h
  rw[akx]at d
  exact d
 |.fail,x,r,h=>by cases h
end
def TU:BinOp->Option w_
 |.eql=>some .eql
 |.neq=>some .neq
 |.lss=>some .lss
 |.leq=>some .leq
 |.gtr=>some .gtr
 |.geq=>some .geq
 |_=>none
theorem arL{b:BinOp}{c:w_}(h:TU b=some c):c.op=b:=by
 cases b<;>simp[TU]at h<;>subst h<;>rfl
def CH(aK:List (S->K))(d:iP)(f:(S->K)->iP):iP:=match aK with
 |[]=>d
 |x::l=>match l with
  |[]=>f x
  |_::_=>d
def BW(aK:List (S->K))(d:iP)(f:(S->K)->(S->K)->iP):iP:=match aK with
 |[]=>d
 |x::l=>match l with
  |[]=>d
  |y::l=>match l with
   |[]=>f x y
   |_::_=>d
def akJ(aK:List (S->K))(d:iP)(f:(S->K)->(S->K)->(S->K)->iP):iP:=match aK with
 |[]=>d
 |x::l=>BW l d (f x)
def Ol(c:hH):iP:=match c.dst with
 |none=>.gen c
 |some d=>CH c.aK (.gen c) fun x=>match c.guard with
  |none=>.XK d x
  |some p=>.U7 p.1 p.2 d x
def aeC(P:Program)(b:BinOp)(t:TypeId)(c:hH):iP:=match P.underlying t with
 |some d=>match d with
  |.int _=>match TU b with
   |some m=>BW c.aK (.gen c) fun x y=>.TT c.guard c.dst m x y
   |none=>match b with
    |.add=>BW c.aK (.gen c) fun x y=>.add c.guard c.dst x y
    |_=>.gen c
  |.string=>match b with
   |.eql=>BW c.aK (.gen c) fun x y=>.OD c.guard c.dst false x y
   |.neq=>BW c.aK (.gen c) fun x y=>.OD c.guard c.dst true x y
   |_=>.gen c
  |_=>.gen c
 |none=>.gen c
def aeD(P:Program)(t:TypeId)(i:Nat)(c:hH):iP:=match P.underlying t with
 |some d=>match d with
  |.struct a=>match a[i]? with
   |some f=>CH c.aK (.gen c) fun x=>.field c.guard c.dst f.offset x
   |none=>.gen c
  |_=>.gen c
 |none=>.gen c
def aeG(P:Program)(q:Call)(c:hH):iP:=match q.callee with
 |.builtin b=>match b with
  |.len=>match q.argTypes[0]? with
   |some t=>match P.underlying t with
    |some d=>match d with
     |.string=>CH c.aK (.gen c) fun x=>.Xd c.guard c.dst x
     |.slice _=>CH c.aK (.gen c) fun x=>.Xa c.guard c.dst x
     |_=>.gen c
    |none=>.gen c
   |none=>.gen c
  |_=>.gen c
 |_=>.gen c
def aeE(P:Program)(t:TypeId)(c:hH):iP:=match P.underlying t with
 |some d=>match d with
  |.slice e=>match P.info? e with
   |some a=>BW c.aK (.gen c) fun x y=>.WP c.guard c.dst a.size x y
   |none=>.gen c
  |_=>.gen c
 |none=>.gen c
def aeF(P:Program)(t:TypeId)(c:hH):iP:=match P.underlying t with
 |some d=>match P.info? t with
  |some i=>bif tM d then .gen c else CH c.aK (.gen c) fun x=>.Lu c.guard c.dst i.size x
  |none=>.gen c
 |none=>.gen c
def Ud(P:Program)(op:Op)(c:hH):iP:=match op with
 |.move _=>Ol c
 |.assign _=>Ol c
 |.pick _ _ _=>akJ c.aK (.gen c) fun a b e=>.pick c.guard c.dst a b e
 |.binOp b t _ _ _=>aeC P b t c
 |.index _ _ _=>BW c.aK (.gen c) fun x y=>.index c.guard c.dst x y
 |.fieldAddr t _ i=>aeD P t i c
 |.call q=>aeG P q c
 |.nilCheck _=>CH c.aK (.gen c) fun x=>.XP c.guard c.dst x
 |.indexAddr t _ _=>aeE P t c
 |.load t _=>aeF P t c
 |_=>.gen c
theorem Hc{c:hH}{f:(S->K)->iP}(h:∀x,c.aK=[x]->(f x).rq=c):(CH c.aK (.gen c) f).rq=c:=by
 cases a:c.aK with
 |nil=>rfl
 |cons x l=>cases l with
  |nil=>exact h x a
  |cons _ _=>rfl
theorem Hd{c:hH}{f:(S->K)->(S->K)->iP}(h:∀x y,c.aK=[x,y]->(f x y).rq=c):(BW c.aK (.gen c) f).rq=c:=by
 cases a:c.aK with
 |nil=>rfl
 |cons x l=>cases l with
  |nil=>rfl
  |cons y l=>cases l with
   |nil=>exact h x y a
   |cons _ _=>rfl
theorem azY{c:hH}{f:(S->K)->(S->K)->(S->K)->iP}(h:∀x y ae,c.aK=[x,y,ae]->(f x y ae).rq=c):(akJ c.aK (.gen c) f).rq=c:=by
 cases a:c.aK with
 |nil=>rfl
 |cons x l=>cases l with
  |nil=>rfl
  |cons y l=>cases l with
   |nil=>rfl
   |cons ae l=>cases l with
    |nil=>exact h x y ae a
    |cons _ _=>rfl
theorem sV{c:hH}{dQ:Option ((S->K)×Bool)}{d:Option Nat}{aK:List (S->K)}{k:v_}(H:c.guard=dQ)(I:c.dst=d)(b:c.aK=aK)(a:c.k=k):(⟨dQ,d,aK,k⟩:hH)=c:=by
 subst H I b a;rfl
theorem asp{c:hH}(h:c.k=.oN (.pure zV)):(Ol c).rq=c:=by
 unfold Ol;cases hd:c.dst with
 |none=>rfl
 |some d=>
  refine Hc fun x a=>?_;cases b:c.guard with
  |none=>exact sV b hd a h
  |some p=>exact sV b hd a h
theorem asG{P:Program}{av:Nat}{ops:Array Oper}{o:Oper}{c:hH}(h:zn P av ops o=some c):qe P o.op=some c.k:=by
 unfold zn at h;cases hd:JW av o.dst with
 |false=>rw[hd]at h;simp at h
 |true=>
  rw[hd]at h;simp only[er]at h;split at h
  ·rename_i dQ aK k H I a;cases h;exact a
  ·cases h
theorem asq{P:Program}{op:Op}{c:hH}(h:qe P op=some c.k):(Ud P op c).rq=c:=by
 unfold Ud;split
 ·exact ajh
 ·exact ajh
 ·simp only[qe,qs,ov,iK,cb]at h;exact azY fun x y ae a=>sV rfl rfl a h.symm
 ·rename_i b t _ _ _;unfold aeC;cases hu:P.underlying t with
  |none=>rfl
  |some d=>
   simp only;split
   ·simp only[qe,qs,ov,JN,hu,iK,cb]at h;split
    ·rename_i m l;exact Hd fun x y a=>sV rfl rfl a (by rw[arL l];exact h.symm)
    ·split
     ·exact Hd fun x y a=>sV rfl rfl a h.symm
     ·rfl
   ·simp only[qe,qs,ov,JN,hu,iK,cb]at h;split
    ·exact Hd fun x y a=>sV rfl rfl a h.symm
    ·exact Hd fun x y a=>sV rfl rfl a h.symm
    ·rfl
   ·rfl
 ·rename_i t _ _;simp only[qe,qs,ov,iK]at h;cases hu:P.underlying t with
  |none=>rw[hu]at h;simp at h
  |some u=>rw[hu]at h;cases u<;>simp only[cb,reduceCtorEq]at h;exact Hd fun x y a=>sV rfl rfl a h.symm
 ·rename_i t _ i;unfold aeD;cases hu:P.underlying t with
  |none=>rfl
  |some d=>
   simp only;split
   ·rename_i o;cases n:o[i]? with
    |none=>rfl
    |some f=>
     simp only[qe,qs,ov,hu,n,iK]at h;cases hi:P.info? f.type with
     |none=>rw[hi]at h;simp at h
     |some r=>
      rw[hi]at h;simp only at h;by_cases j:r.size≠0
      ·rw[cv j]at h;simp only[cb]at h;exact Hc fun x a=>sV rfl rfl a h.symm
      ·rw[bn j]at h;simp at h
   ·rfl
 ·rename_i q;unfold aeG;cases g:q.callee with
  |builtin b=>
   simp only;split
   ·cases ah:q.argTypes[0]? with
    |none=>rfl
    |some t=>
     simp only;cases hu:P.underlying t with
     |none=>rfl
     |some d=>
      simp only;split
      ·simp only[qe,qs,ov,g,iK,JO,ah,JP,hu,cb]at h;exact Hc fun x a=>sV rfl rfl a h.symm
      ·simp only[qe,qs,ov,g,iK,JO,ah,JP,hu,cb]at h;exact Hc fun x a=>sV rfl rfl a h.symm
      ·rfl
   ·rfl
  |_=>rfl
 ·simp only[qe,qs,ov,iK,cb]at h;exact Hc fun x a=>sV rfl rfl a h.symm
 ·rename_i t _ _;unfold aeE;cases hu:P.underlying t with
  |none=>rfl
  |some d=>
   simp only;split
   ·rename_i e;cases hi:P.info? e with
    |none=>rfl
    |some s=>simp only[qe,qs,ov,hu,hi,iK,cb]at h;exact Hd fun x y a=>sV rfl rfl a h.symm
   ·rfl
 ·rename_i t _;unfold aeF;cases hu:P.underlying t with
  |none=>rfl
  |some d=>
   cases hi:P.info? t with
   |none=>rfl
   |some i=>
    simp only[qe,qs,ov,hu,hi,iK,cb]at h;simp only;cases k:tM d with
    |true=>rfl
    |false=>exact Hc fun x a=>sV rfl rfl a (by rw[←k];exact h.symm)
 ·rfl
def F4(P:Program)(av:Nat)(ops:Array Oper):List Oper->Option (List iP)
 |[]=>some []
 |o::l=>match zn P av ops o,F4 P av ops l with
  |some x,some r=>some (Ud P o.op x::r)
  |_,_=>none
theorem aeN{P:Program}{av:Nat}{ops:Array Oper}:∀(l:List Oper),sX P av ops l=(F4 P av ops l).map (List.map iP.rq)
 |[]=>rfl
 |o::l=>by
  simp only[sX,F4,aeN l]
  cases h:zn P av ops o with
  |none=>rfl
  |some x=>
   cases F4 P av ops l with
   |none=>rfl
   |some r=>simp[asq (asG h)]
def m1(P:Program)(av:Nat):Option Nat->Code->Option uG
 |_,.skip=>some .skip
 |_,.label _=>some .skip
 |_,.exit id=>some (.exit id)
 |_,.ret=>some .ret
 |k,.seq a b=>match m1 P av k a,m1 P av (k.map (· +(hk a).length)) b with
  |some x,some y=>some (.seq x y)
  |_,_=>none
 |k,.cond t a b=>match rm av P.globals.size t,m1 P av k a,m1 P av (k.map (· +(hk a).length)) b with
  |some t,some x,some y=>some (.cond t x y)
  |_,_,_=>none
 |k,.block id a=>match m1 P av k a with|some x=>some (.block id x)|none=>none
 |k,.loop a=>match m1 P av k a with|some x=>some (.loop x)|none=>none
 |_,.region _ ops false=>match F4 P av ops ops.toList with
  |some cs=>some (.region cs)
  |none=>some .fail
 |_,.region _ ops true=>match sX P av ops ops.toList with
  |some cs=>some (.Dk (tP ops ops.toList cs (Ew ops.toList [])) (cs.filter fun c=>ah8 c.k).length)
  |none=>some .fail
 |some key,.rangeFunc f _ _ _=>match rm av P.globals.size f with
  |some d=>some (.range key av d)
  |none=>none
 |_,_=>some .fail
def amx(P:Program)(av:Nat)(ops:Array Oper):Bool:=match sX P av ops ops.toList with
 |some cs=>Af av ops.toList ((tP ops ops.toList cs (Ew ops.toList [])).map (pr.yt Dr))&&Nat.beq (tP ops ops.toList cs (Ew ops.toList [])).length cs.length
 |none=>true
def uv(P:Program)(av:Nat):Code->Bool
 |.seq a b=>uv P av a&&uv P av b
 |.cond _ a b=>uv P av a&&uv P av b
 |.block _ a=>uv P av a
 |.loop a=>uv P av a
 |.region _ ops true=>amx P av ops
 |_=>true
theorem Dh{P:Program}{av:Nat}:∀(c:Code) (k:Option Nat),uv P av c=true->jv P av k c=(m1 P av k c).map uG.Ah
 |.skip,_,_=>rfl
 |.label _,_,_=>rfl
 |.exit _,_,_=>rfl
 |.ret,_,_=>rfl
 |.seq a b,k,h=>by
  simp only[uv,dz]at h
  simp only[jv,m1,Dh a _ h.1,Dh b _ h.2]
  cases m1 P av k a<;>cases m1 P av (k.map (· +(hk a).length)) b<;>rfl
 |.cond t a b,k,h=>by
  simp only[uv,dz]at h
  simp only[jv,m1,Dh a _ h.1,Dh b _ h.2]
  cases rm av P.globals.size t<;>cases m1 P av k a<;>cases m1 P av (k.map (· +(hk a).length)) b<;>rfl
 |.block _ a,k,h=>by
  simp only[uv]at h
  simp only[jv,m1,Dh a _ h]
  cases m1 P av k a<;>rfl
 |.loop a,k,h=>by
  simp only[uv]at h
  simp only[jv,m1,Dh a _ h]
  cases m1 P av k a<;>rfl
 |.region _ ops false,k,_=>by
  simp only[jv,m1,aeN]
  cases F4 P av ops ops.toList<;>rfl
 |.region _ ops true,k,h=>by
  simp only[uv,amx]at h
  simp only[jv,m1,Om]
  cases hd:sX P av ops ops.toList with
  |none=>rfl
  |some cs=>rw[hd]at h;simp only at h;simp only[h,er];rfl
 |.rangeFunc f _ _ _,some key,_=>by
  simp only[jv,m1]
  cases rm av P.globals.size f<;>rfl
 |.rangeFunc f _ _ _,none,_=>by simp only[jv,m1];rfl
 |.scope _,k,_=>by cases k<;>rfl
 |.goto _,k,_=>by cases k<;>rfl
 |.refuse _,k,_=>by cases k<;>rfl
structure IP where
 av:Nat
 rs:List rR
 c:uG
def aeI(P:Program)(f:FuncId)(fn:Func):Option IP:=match fn.body with
 |some body=>bif (fn.name != "runtime.NumGoroutine")&&Nat.ble fn.ntmps 256&&Nat.ble (hk body).length 64 then
   match zo P fn.ntmps fn.results.toList,m1 P fn.ntmps (some (um f)) body with
   |some rs,some c=>some ⟨fn.ntmps,rs,c⟩
   |_,_=>none
  else none
 |none=>none
def F3(P:Program)(fI:Nat->Option Func)(f:FuncId):Option IP:=match fI f with
 |some fn=>aeI P f fn
 |none=>none
def Q8(P:Program)(fn:Func):Bool:=match fn.body with
 |some body=>uv P fn.ntmps body
 |none=>true
def I9(P:Program)(fI:Nat->Option Func):Prop:=∀f fn,fI f=some fn->P.funcs[f]? =some fn/\Q8 P fn=true
theorem aeJ{P:Program}{fI:Nat->Option Func}(ah:I9 P fI){f:FuncId}{d:IP}(h:F3 P fI f=some d):F2 P f=some ⟨d.av,d.rs,d.c.Ah⟩:=by
 unfold F3 at h;cases b:fI f with
 |none=>rw[b]at h;cases h
 |some fn=>
  rw[b]at h;simp only at h;obtain⟨H,a⟩:=ah f fn b;unfold aeI at h;unfold Q8 at a;unfold F2;rw[H];simp only;cases A:fn.body with
  |none=>rw[A]at h;cases h
  |some body=>
   rw[A]at h a;simp only at h a⊢;cases e:((fn.name != "runtime.NumGoroutine")&&Nat.ble fn.ntmps 256&&Nat.ble (hk body).length 64)with
   |false=>rw[e]at h;simp at h
   |true=>
    rw[e]at h;simp only[er]at h⊢;rw[Dh body _ a];cases i:zo P fn.ntmps fn.results.toList with
    |none=>rw[i]at h;simp at h
    |some rs=>
     rw[i]at h;cases g:m1 P fn.ntmps (some (um f)) body with
     |none=>rw[g]at h;simp at h
     |some c=>rw[g]at h;simp only[cb]at h;subst h;rfl
noncomputable def OG(av:Nat)(rs:List rR)(F:gp->dU)(args:List K)(h:ay):Option (K×ay):=
 @Bool.rec (fun _=>Option (K×ay)) none (@dU.rec (fun _=>Option (K×ay)) none (fun x=>A_ rs x) (fun _ _=>none) (fun x=>A_ rs x) (F ⟨vw args 0 bX,h,[]⟩)) (Nat.ble args.length av)
theorem afu{av:Nat}{rs:List rR}{F:gp->dU}{c:jH}(b:∀x r,(F x).i2=some r->c x=some r){args:List K}{h:ay}{r:K×ay}(e:OG av rs F args h=some r):Ba av rs c args h=some r:=by
 unfold OG at e;unfold Ba;cases A:Nat.ble args.length av with
 |false=>rw[A]at e;cases e
 |true=>
  rw[A]at e;simp only[er];cases a:F ⟨vw args 0 bX,h,[]⟩with
  |fail=>rw[a]at e;cases e
  |hD y=>rw[a]at e;rw[b _ (.hD,y) (by rw[a];rfl)];exact e
  |exit id y=>rw[a]at e;cases e
  |ret y=>rw[a]at e;rw[b _ (.ret,y) (by rw[a];rfl)];exact e
noncomputable def iC(P:Program)(ext:AD)(fI:Nat->Option Func)(n:Nat):iN:=
 @Nat.rec (fun _=>iN) Dr (fun n E=>{
  call:=fun f args h=> @Option.rec _ (fun _=>Option (K×ay)) (@Option.rec IP (fun _=>Option (K×ay)) none (fun d=>OG d.av d.rs (YF E n d.c) args h) (F3 P fI f)) (fun F=>F args h) (ext f)
  yield:=Rr (PZ P E n)}) n
section
variable {P:Program} {ρ:b4}
theorem ls.mono{f:FuncId}{F e:List K->ay->Option (K×ay)}(h:ls P ρ f F)(g:∀args h r,e args h=some r->F args h=some r):ls P ρ f e:=
 fun σ args ag v i cs w a b c d=>h σ args ag v i cs w a b c (g _ _ _ d)
theorem afa(ext:AD)(fI:Nat->Option Func)(n:Nat):iC P ext fI (n+1)={
 call:=fun f args h=> @Option.rec _ (fun _=>Option (K×ay)) (@Option.rec IP (fun _=>Option (K×ay)) none (fun d=>OG d.av d.rs (YF (iC P ext fI n) n d.c) args h) (F3 P fI f)) (fun F=>F args h) (ext f)
 yield:=Rr (PZ P (iC P ext fI n) n)}:=rfl
theorem OB(a:P.follows .mixedOrders=true)(c:ρ.nC=mK P){ext:AD}{fI:Nat->Option Func}(ah:I9 P fI)(g:∀f F,ext f=some F->ls P ρ f F):∀n,rB P ρ (iC P ext fI n)
 |0=>⟨fun f=>(by intro σ args h v i cs w _ _ _ J;exact absurd J (by rintro⟨⟩)),(by intro σ b args h v i cs w p _ _ _ _ J;exact absurd J (by rintro⟨⟩))⟩
 |n+1=>by
  have j:=OB a c ah g n
  rw[afa]
  refine⟨fun f=>?_,aE7 (ax7 a c j n)⟩
  simp only
  cases l:ext f with
  |some F=>exact g f F l
  |none=>
   cases k:F3 P fI f with
   |some d=>exact(asz a c j (aeJ ah k) n).mono fun args h r e=>afu (B5 d.c) e
   |none=>intro σ args h v i cs w _ _ _ J;cases J
theorem as6(b:P.follows .mixedOrders=true)(i:ρ.nC=mK P){ext:AD}{fI:Nat->Option Func}(ah:I9 P fI)(j:∀f F,ext f=some F->ls P ρ f F){f:FuncId}(m:ext f=none){n:Nat}{σ:bl}{args:List K}{h:ay}{v:K}{g:ay}{cs:List Value}{w:World}(k:jE P σ)(o:bU ρ σ args=some cs)(l:c6 ρ σ h w) (J:(iC P ext fI n).call f args h=some (v,g)):Calls P f cs.toArray w fun e w'=>∃c,e=.returned c/\oc ρ σ h w v g c w':=by
 cases n with
 |zero=>cases J
 |succ n=>
  rw[afa]at J;simp only[m]at J;cases a:F3 P fI f with
  |none=>rw[a]at J;cases J
  |some d=>rw[a]at J;exact asy b i (OB b i ah j n) (aeJ ah a) n k o l (afu (B5 d.c) J)
end
end Go.ch
namespace Go.ch
inductive lp where
 |e
 |n (k:Nat) (fn:Func) (l r:lp)
noncomputable def lp.find(t:lp)(f:Nat):Option Func:= @lp.rec (fun _=>Option Func) none (fun k fn _ _ a b=> @Bool.rec (fun _=>Option Func) (@Bool.rec (fun _=>Option Func) b a (Nat.blt f k)) (some fn) (Nat.beq f k)) t
def lp.AT(P:Program):lp->Prop
 |.e=>True
 |.n k fn l r=>(P.funcs[k]? =some fn/\Q8 P fn=true)/\l.AT P/\r.AT P
theorem lp.sY{P:Program}:∀{t:lp},t.AT P->I9 P t.find
 |.e,_,f,fn,h=>by cases h
 |.n k c l r,⟨H,I,b⟩,f,fn,h=>by
  have h: @Bool.rec (fun _=>Option Func) (@Bool.rec (fun _=>Option Func) (r.find f) (l.find f) (Nat.blt f k)) (some c) (Nat.beq f k)=some fn:=h
  cases A:Nat.beq f k with
  |true=>
   rw[A]at h
   have e:=gV A
   subst e
   cases h
   exact H
  |false=>
   rw[A]at h
   cases a:Nat.blt f k with
   |true=>rw[a]at h;exact lp.sY I f fn h
   |false=>rw[a]at h;exact lp.sY b f fn h
end Go.ch
namespace Go.ch
def F':List (K×K×Nat)->List (K×K×Nat)->Bool
 |[],[]=>true
 |a::l,b::m=>K.beq a.1 b.1&&K.beq a.2.1 b.2.1&&Nat.beq a.2.2 b.2.2&&F' l m
 |_,_=>false
theorem ae4:∀{a b:List (K×K×Nat)},F' a b=true->a=b
 |[],[],_=>rfl
 |(x,y,ae)::l,(f,g,e)::m,h=>by
  simp only[F',dz]at h
  obtain⟨⟨⟨H,I⟩,d⟩,c⟩:=h
  rw[K.beq_eq H,K.beq_eq I,gV d,ae4 c]
 |[],_::_,h=>by simp[F']at h
 |_::_,[],h=>by simp[F']at h
def em.same:em->em->Bool
 |.cells e vs t w,.cells a b g w'=>Nat.beq e a&&K.oo vs b&&(t==g)&&(w==w')
 |.map d c,.map h f=>F' d h&&Nat.beq c f
 |.aC e vs,.aC a b=>Nat.beq e a&&K.oo vs b
 |_,_=>false
theorem em.aBK{a b:em}(h:a.same b=true):a=b:=by
 cases a<;>cases b<;>simp only[em.same,dz,p0]at h
 ·obtain⟨⟨⟨H,I⟩,d⟩,c⟩:=h;rw[gV H,K.sN I,eq_of_beq d,eq_of_beq c]
 ·obtain⟨H,I⟩:=h;rw[ae4 H,gV I]
 ·obtain⟨H,I⟩:=h;rw[gV H,K.sN I]
abbrev lQ:=List (Nat×em)
def pH(h:ay):lQ->Bool
 |[]=>true
 |p::l=>(match h.cK p.1 with|some y=>y.same p.2|none=>false)&&pH h l
theorem Gs{h:ay}:∀{l:lQ},pH h l=true->∀{b:Nat} {x:em},(b,x)∈l->h.cK b=some x
 |[],_,b,x,a=>by cases a
 |p::l,H,b,x,a=>by
  simp only[pH,dz]at H
  rcases gl.1 a with e|a
  ·cases e
   cases c:h.cK b with
   |none=>rw[c]at H;simp at H
   |some y=>rw[c]at H;rw[em.aBK H.1]
  ·exact Gs H.2 a
def n7(l:lQ):Bool:=l.all fun p=>Nat.blt p.1 en
theorem Q2{l:lQ}(h:n7 l=true){p:Nat×em}(ag:p∈l):p.1<en:=by
 simpa using hs.1 h p ag
def gU(h:ay):lQ->ay
 |[]=>h
 |p::l=>gU (h.dD p.1 (some p.2)) l
def Dl(h:ay):lQ->ay
 |[]=>h
 |p::l=>Dl (h.dD p.1 none) l
theorem L1:∀{l:lQ} {h:ay} {b:Nat} {x:em},(∀p∈l,p.1<en)->(gU h l).cK b=some x->(b,x)∈l∨h.cK b=some x
 |[],h,b,x,_,e=>.inr e
 |p::l,h,b,x,a,e=>by
  rcases L1 (fun q c=>a q (i6 _ c)) e with H|H
  ·exact .inl (i6 _ H)
  ·rw[ay.vb _ _ _ _ (a p (mQ ..))]at H
   by_cases ak:b=p.1
   ·rw[cv ak]at H
    cases H
    subst ak
    exact .inl (mQ ..)
   ·rw[bn ak]at H
    exact .inr H
theorem aeR:∀{l:lQ} {h:ay} {b:Nat} {x:em},(∀p∈l,p.1<en)->(Dl h l).cK b=some x->h.cK b=some x/\∀p∈l,p.1≠b
 |[],h,b,x,_,e=>⟨e,fun p ag=>by cases ag⟩
 |p::l,h,b,x,c,e=>by
  obtain⟨H,I⟩:=aeR (fun q a=>c q (i6 _ a)) e
  rw[ay.vb _ _ _ _ (c p (mQ ..))]at H
  by_cases ak:b=p.1
  ·rw[cv ak]at H;cases H
  ·rw[bn ak]at H
   refine⟨H,fun q a=>?_⟩
   rcases gl.1 a with rfl|a
   ·exact ht ak
   ·exact I q a
structure ma where
 args:List K
 pre:lQ
 nx:Nat
 v:K
 post:lQ
 Em:Nat
def ma.heap(m:ma):ay:=gU ⟨.e,m.nx⟩ m.pre
def LG(m:ma)(args:List K)(h:ay):Option (K×ay):=
 bif K.oo args m.args&&Nat.beq h.nx m.nx&&pH h m.pre then some (m.v,⟨(gU (Dl h m.pre) m.post).t,m.Em⟩)else none
def Ej(m:ma)(r:Option (K×ay)):Bool:=match r with
 |some (v,h)=>K.beq v m.v&&Nat.ble h.nx m.Em&&pH h m.post&&n7 m.pre&&n7 m.post
 |none=>false
theorem B0:∀{l:lQ} {h:ay},(gU h l).nx=h.nx
 |[],_=>rfl
 |p::l,h=>by rw[gU,B0];rfl
theorem io.some{ρ:b4}{σ:bl}{p:lT}{o:Option Obj}{x:em}(h:io ρ σ p o x):∃y,o=some y:=by
 cases x with
 |cells=>obtain⟨arr,bg,rfl,_⟩:=h;exact⟨_,rfl⟩
 |map=>obtain⟨_,b,rfl,_⟩:=h;exact⟨_,rfl⟩
 |mapIter=>obtain⟨_,q,_,rfl⟩:=h;exact⟨_,rfl⟩
 |loop=>obtain⟨_,a,q,l,_,_,_,rfl⟩:=h;exact⟨_,rfl⟩
 |deferred=>obtain⟨_,rfl⟩:=h;exact⟨_,rfl⟩
 |aC=>obtain⟨cs,_,rfl,_⟩:=h;exact⟨_,rfl⟩
theorem uJ.mono{P:Program}{f:Frame}{w:World}{R a:Value->World->Prop}(h:uJ P f w R)(b:∀v w,R v w->a v w):uJ P f w a:=
 fun c cs=>let ⟨v,w',q,s⟩:=h c cs;⟨v,w',b _ _ q,s⟩
theorem oc.frame{ρ:b4}{σ:bl}{h ag H:ay}{w w':World}{v:K}{c:Value}{pre post:lQ}{Em:Nat}(C:c6 ρ σ h w)(Q:∀b x,ag.cK b=some x->(b,x)∈pre)(P:∀b x,(b,x)∈pre->h.cK b=some x)(S:ag.nx=h.nx) (T:∀p∈pre,p.1<en)(V:∀p∈post,p.1<en)(s:∀b x,(b,x)∈post->H.cK b=some x)(N:H.nx<=Em) (W:oc ρ σ ag w v H c w'):oc ρ σ h w v ⟨(gU (Dl h pre) post).t,Em⟩ c w':=by
 obtain⟨σ',J,M,g⟩:=W;have E:∀b x,(⟨(gU (Dl h pre) post).t,Em⟩:ay).cK b=some x->(b,x)∈post∨(h.cK b=some x/\∀p∈pre,p.1≠b):=fun b x A=>by
  rcases L1 V (h:=Dl h pre) (b:=b) (x:=x) A with I|I
  ·exact .inl I
  ·exact .inr (aeR T I)
 have out:∀b x p,h.cK b=some x->(∀q∈pre,q.1≠b)->σ b=some p->¬k8 σ ag p.aU:=fun b x p A k d ⟨B,L,eo,t,o,G⟩=>by have R:=Q B L t;have z:b≠B:=fun e=>k _ R (by simp[e]);exact C.inj b B x L p eo A (P B L R) d o z G.symm
 have lt:∀b x p,h.cK b=some x->σ b=some p->p.aU<w.heap.size/\io ρ σ p w.heap[p.aU]? x:=fun b x p A d=>by obtain⟨q,k,D⟩:=C.aU b x A;obtain rfl:p=q:=gn (d.symm.trans k);obtain⟨y,X⟩:=D.some;exact⟨(hl.1 X).1,D⟩
 have sub:∀r,k8 σ ag r->k8 σ h r:=fun r ⟨b,x,p,t,o,G⟩=>⟨b,x,p,P b x (Q b x t),o,G⟩;have old:∀b x,h.cK b=some x->∃p,σ b=some p/\σ' b=some p:=fun b x A=>by obtain⟨p,O,_⟩:=C.aU b x A;exact⟨p,O,g.ext b p O⟩
 refine⟨σ',J,⟨fun b x A=>?_,fun b a x f p i A fq d n z=>?_,fun b A=>M.jy b (db N A)⟩,⟨g.ext,fun b I j=>by rw[←S];exact g.eI b I j,by rw[←S];exact db g.nx N,g.size,fun r U Y=>g.kept r U fun F=>Y (sub r F),fun r F=>?_,g.os,g.output,g.tape⟩⟩
 ·rcases E b x A with I|⟨I,j⟩
  ·exact M.aU b x (s b x I)
  ·obtain⟨p,d,n⟩:=old b x I;obtain⟨aq,D⟩:=lt b x p I d;refine⟨p,n,?_⟩;rw[g.kept p.aU aq (out b x p I j d)];exact D.ext g.ext
 ·
  have mixed:∀b a x f p i,(b,x)∈post->h.cK a=some f->(∀q∈pre,q.1≠a)->σ' b=some p->σ' a=some i->p.aU≠i.aU:=fun b a x f p i I j m d n e=>by
   obtain⟨q,k,u⟩:=old a f j;obtain rfl:i=q:=gn (n.symm.trans u);obtain⟨aq,_⟩:=lt a f i j k;rcases g.nD p.aU ⟨b,x,p,s b x I,d,rfl⟩with l|l
   ·rw[e]at l;omega
   ·rw[e]at l;exact out a f i j m k l
  rcases E b x A with I|⟨I,j⟩<;>rcases E a f fq with m|⟨m,l⟩
  ·exact M.inj b a x f p i (s b x I) (s a f m) d n z
  ·exact mixed b a x f p i I m l d n
  ·exact ht (mixed a b f x i p m I j n d)
  ·obtain⟨q,k,u⟩:=old b x I;obtain⟨cf,m7,Z⟩:=old a f m;obtain rfl:p=q:=gn (d.symm.trans u);obtain rfl:i=cf:=gn (n.symm.trans Z);exact C.inj b a x f p i I m k m7 z
 ·obtain⟨b,x,p,t,o,rfl⟩:=F;rcases E b x t with I|⟨I,j⟩
  ·rcases g.nD p.aU ⟨b,x,p,s b x I,o,rfl⟩with l|l
   ·exact .inl l
   ·exact .inr (sub _ l)
  ·obtain⟨q,k,u⟩:=old b x I;obtain rfl:p=q:=gn (o.symm.trans u);exact .inr ⟨b,x,p,I,k,rfl⟩
theorem LH{P:Program}{ρ:b4}{f:FuncId}{call:List K->ay->Option (K×ay)}(u:ls P ρ f call){m:ma}(a:Ej m (call m.args m.heap)=true):ls P ρ f (LG m):=by
 intro σ args h v N cs w D G d J;unfold LG at J;cases A:(K.oo args m.args&&Nat.beq h.nx m.nx&&pH h m.pre)with
 |false=>rw[A]at J;simp at J
 |true=>
  rw[A]at J;simp only[er,cb,g9]at J;obtain⟨rfl,rfl⟩:=J;simp only[dz]at A;obtain⟨⟨H,I⟩,C⟩:=A;have H:=K.sN H;subst H;have I:=gV I;unfold Ej at a;cases j:call m.args m.heap with
  |none=>rw[j]at a;simp at a
  |some r=>
   obtain⟨O,o⟩:=r;rw[j]at a;simp only[dz]at a;obtain⟨⟨⟨⟨ce,eb⟩,eV⟩,L⟩,M⟩:=a;have ce:=K.beq_eq ce;subst ce;have q:=fun p ag=>Q2 L (p:=p) ag;have z:=fun p ag=>Q2 M (p:=p) ag;have i:∀b x,m.heap.cK b=some x->(b,x)∈m.pre:=fun b x A=>by
    rcases L1 q A with e|e
    ·exact e
    ·simp[ay.cK,T.cK]at e
   have g:∀b x,(b,x)∈m.pre->h.cK b=some x:=fun b x A=>Gs C A;have t:m.heap.nx=h.nx:=by unfold ma.heap;rw[B0];exact I.symm
   have y:c6 ρ σ m.heap w:=⟨fun b x A=>d.aU b x (g b x (i b x A)),fun b n x l p E A F=>d.inj b n x l p E (g b x (i b x A)) (g n l (i n l F)),fun b A=>d.jy b (by rw[←t];exact A)⟩;have s:∀c w',oc ρ σ m.heap w m.v o c w'->oc ρ σ h w m.v ⟨(gU (Dl h m.pre) m.post).t,m.Em⟩ c w':=fun c w' B=>oc.frame d i g t q z (fun b x A=>Gs eV A) (gP eb) B;rcases u σ m.args m.heap m.v o cs w D G y j with⟨c,w',ak,k⟩|⟨ak,k⟩
   ·exact .inl ⟨c,w',ak,s c w' k⟩
   ·exact .inr ⟨ak,k.mono s⟩
def LI:List ma->List K->ay->Option (K×ay)
 |[],_,_=>none
 |m::l,args,h=>match LG m args h with
  |some r=>some r
  |none=>LI l args h
theorem XH{P:Program}{ρ:b4}{f:FuncId}:∀{l:List ma},(∀m∈l,ls P ρ f (LG m))->ls P ρ f (LI l)
 |[],_=>by intro σ args h v d cs w _ _ _ J;cases J
 |m::l,b=>by
  intro σ args h v d cs w c g e J
  simp only[LI]at J
  cases a:LG m args h with
  |some r=>rw[a]at J;cases J;exact b m (mQ ..) σ args h _ _ cs w c g e a
  |none=>rw[a]at J;exact XH (fun q i=>b q (i6 _ i)) σ args h v d cs w c g e J
end Go.ch
namespace Go.ch
open Go.RowKit
section
variable {P:Program} {ρ:b4}
theorem c6.ayb{σ:bl}{h:ay}{w:World}(r:c6 ρ σ h w){b:Nat}{x:em}{p:lT}(A:h.cK b=some x)(ag:σ b=some p):p.aU<w.heap.size:=by
 obtain⟨q,c,d⟩:=r.aU b x A;obtain rfl:p=q:=gn (ag.symm.trans c);obtain⟨y,a⟩:=d.some;exact(hl.1 a).1
theorem c6.U{σ:bl}{h:ay}{w w':World}(r:c6 ρ σ h w)(A:Below w.heap.size w w'):c6 ρ σ h w':=
 ⟨fun b x a=>by
  obtain⟨p,ag,c⟩:=r.aU b x a
  exact⟨p,ag,by rw[A.block p.aU (r.ayb a ag)];exact c⟩,r.inj,r.jy⟩
theorem jj.U{σ:bl}{h:ay}{w w':World}(A:Below w.heap.size w w'):jj σ h w σ h w':=
 ⟨.refl _,fun _ a b=>(b a).elim,aZ _,A.size,fun r c _=>A.block r c,fun _ d=>.inr d,A.os,A.output,A.tape⟩
theorem uJ.g0{f:FuncId}{cs:Array Value}{w:World}{R:Value->World->Prop}(h:Calls P f cs w fun e w'=>∃v,e=.returned v/\R v w'):uJ P (Frame.enter P f cs .normal) w R:=uJ.azl h
end
section
variable {P:Program}
def em.PP:em->Bool
 |.aC _ _=>true
 |_=>false
def AZ(l:lQ):Bool:=l.all fun p=>p.2.PP
theorem yi{l:lQ}{nx:Nat}(a:n7 l=true){b:Nat}{x:em}(h:(gU ⟨.e,nx⟩ l).cK b=some x):(b,x)∈l:=by
 rcases L1 (fun p ag=>Q2 a ag) h with h|h
 ·exact h
 ·simp[ay.cK,T.cK]at h
theorem aBr{ρ:b4}{σ σ':bl}{l:lQ}{nx:Nat}{d:ay}{w w':World}(m:n7 l=true)(n:AZ l=true)(o:pH d l=true) (s:c6 ρ σ (gU ⟨.e,nx⟩ l) w)(y:c6 ρ σ' d w')(a:jj σ (gU ⟨.e,nx⟩ l) w σ' d w'):Below w.heap.size w w':=by
 refine⟨a.os,a.tape,a.output,a.size,fun k j=>?_⟩;by_cases h:k8 σ (gU ⟨.e,nx⟩ l) k
 ·obtain⟨b,x,p,f,i,rfl⟩:=h;have g:=yi m f;have c:x.PP=true:=hs.1 n _ g;cases x with
  |aC e vs=>obtain⟨q,r,cs,_,I,_⟩:=s.aU b _ f;obtain rfl:p=q:=gn (i.symm.trans r);obtain⟨t,u,A,_,z,_⟩:=y.aU b _ (Gs o g);obtain rfl:p=t:=gn ((a.ext b p i).symm.trans u);rw[I,z]
  |cells=>cases c
  |map=>cases c
  |mapIter=>cases c
  |loop=>cases c
  |deferred=>cases c
 ·exact a.kept k j h
structure apB (ρ:b4) (σ:bl) (w:World) (v:K) (bf:ay) (c:Value) (σ':bl) (w':World):Prop where
 v:aE ρ σ' v=some c
 h:c6 ρ σ' bf w'
 ext:ke σ σ'
 b:Below w.heap.size w w'
theorem ym(q:P.follows .mixedOrders=true){ρ:b4}(s:ρ.nC=mK P){ext:AD}{fI:Nat->Option Func}(ah:I9 P fI)(j:∀f F,ext f=some F->ls P ρ f F){f:FuncId}(r:ext f=none){n:Nat}{σ:bl}{args:List K}{l:lQ}{nx:Nat}{v:K}{a:ay}{cs:List Value}{w:World}(p:jE P σ)(t:bU ρ σ args=some cs)(i:n7 l=true)(k:AZ l=true)
  (b:c6 ρ σ (gU ⟨.e,nx⟩ l) w)(J:(iC P ext fI n).call f args (gU ⟨.e,nx⟩ l)=some (v,a))(m:pH a l=true):
  Calls P f cs.toArray w fun e w'=>∃c σ',e=.returned c/\apB ρ σ w v a c σ' w':=
 (as6 q s ah j r p t b J).mono fun e w' ⟨c,o,σ',h,g,d⟩=>⟨c,σ',o,h,g,d.ext,aBr i k m b g d⟩
mutual
theorem FY{ρ ρ':b4}(h:ρ.val=ρ'.val)(σ:bl):∀v:K,aE ρ σ v=aE ρ' σ v
 |.int .. =>by simp[aE]
 |.bool _=>by simp[aE]
 |.str _=>by simp[aE]
 |.jo .. =>by simp[aE]
 |.pV=>by simp[aE]
 |.slice .. =>by simp[aE]
 |.bS=>by simp[aE]
 |.map _=>by simp[aE]
 |.uo=>by simp[aE]
 |.fn f a c=>by simp[aE,FW h σ a,FW h σ c]
 |.rt _=>by simp[aE]
 |.wS=>by simp[aE]
 |.iface t v=>by simp[aE,FY h σ v]
 |.BR=>by simp[aE]
 |.agg l=>by simp[aE,FW h σ l]
 |.tup l=>by simp[aE,FW h σ l]
 |.sym i=>by simp[aE,h]
 |.jx .. =>by simp[aE]
theorem FW{ρ ρ':b4}(h:ρ.val=ρ'.val)(σ:bl):∀l:List K,bU ρ σ l=bU ρ' σ l
 |[]=>by simp[bU]
 |v::l=>by simp[bU,FY h σ v,FW h σ l]
end
def Hq(h:ay)(cL:lQ):Bool:=cL.all fun p=>match p.2 with
 |.aC e vs=>(match h.cK p.1 with|some (.cells a b _ _)=>Nat.beq e a&&K.oo vs b|_=>false)
 |_=>false
theorem yl{h:ay}{cL:lQ}(a:Hq h cL=true){b:Nat}{x:em}(d:(b,x)∈cL):∃e vs t wr,x=.aC e vs/\h.cK b=some (.cells e vs t wr):=by
 have:=hs.1 a _ d;cases x with
 |aC e vs=>
  simp only at this;split at this
  ·rename_i f g t wr c;simp only[dz]at this;refine⟨e,vs,t,wr,rfl,?_⟩;rw[c,gV this.1,K.sN this.2]
  ·cases this
 |cells=>cases this
 |map=>cases this
 |mapIter=>cases this
 |loop=>cases this
 |deferred=>cases this
def mB(w:World)(b:Nat):Array Value:=match w.heap[b]? with|some (.cells arr _ _)=>arr|_=>#[]
def pF(w:World)(b:Nat):Nat×Nat:=match w.heap[b]? with|some (.cells _ _ bg)=>bg|_=>(0,0)
def b4.at(ρ:b4)(w:World):b4:={ρ with ys:=mB w,bg:=pF w}
theorem Yt{ρ:b4}{σ:bl}{p:lT}{w:World}{e:TypeId}{vs:List K}{t wr:Bool}(h:io ρ σ p w.heap[p.aU]? (.cells e vs t wr)):io (ρ.at w) σ p w.heap[p.aU]? (.aC e vs):=by
 obtain⟨arr,bg,H,_,_,_,⟨cs,I,b⟩,_⟩:=h;have ak:mB w p.aU=arr:=by simp[mB,H]
 have a:pF w p.aU=bg:=by simp[pF,H]
 refine⟨cs,?_,?_,?_⟩
 ·rw[←I];exact FW (ρ:=ρ.at w) (ρ':=ρ) rfl σ vs
 ·show w.heap[p.aU]? =some (Obj.cells (mB w p.aU) e (pF w p.aU));rw[ak,a];exact H
 ·show ∀i,i<vs.length->(mB w p.aU)[p.dA+i]? =cs[i]?;rw[ak];exact b
theorem c6.aC{ρ:b4}{σ:bl}{h:ay}{w:World}(f:c6 ρ σ h w){cL:lQ}(a:n7 cL=true)(c:Hq h cL=true):c6 (ρ.at w) σ (gU ⟨.e,h.nx⟩ cL) w:=by
 refine⟨fun b x A=>?_,fun b l x q p j A n ag m i=>?_,fun b A=>f.jy b (by rw[B0]at A;exact A)⟩
 ·obtain⟨e,vs,t,wr,rfl,d⟩:=yl c (yi a A);obtain⟨p,ag,k⟩:=f.aU b _ d;exact⟨p,ag,Yt k⟩
 ·obtain⟨e,vs,t,wr,rfl,d⟩:=yl c (yi a A);obtain⟨r,u,s,o,rfl,g⟩:=yl c (yi a n);exact f.inj b l _ _ p j d g ag m i
end
end Go.ch
namespace Go.ch
mutual
def K.n9(n:Nat):K->Bool
 |.jo b _=>Nat.blt b n
 |.slice b _ _ _ _=>Nat.blt b n
 |.map b=>Nat.blt b n
 |.rt b=>Nat.blt b n
 |.jx b _ _ _=>Nat.blt b n
 |.fn _ a c=>yv n a&&yv n c
 |.iface _ v=>v.n9 n
 |.agg l=>yv n l
 |.tup l=>yv n l
 |_=>true
def yv(n:Nat):List K->Bool
 |[]=>true
 |v::l=>v.n9 n&&yv n l
end
def bl.low(σ:bl)(n:Nat):bl:=fun b=>bif Nat.blt b n then σ b else none
theorem bl.ax9(σ:bl)(n:Nat):ke (σ.low n) σ:=fun b p h=>by
 unfold bl.low at h
 cases A:Nat.blt b n with
 |true=>rw[A]at h;exact h
 |false=>rw[A]at h;cases h
theorem bl.BO{σ:bl}{n b:Nat}(h:Nat.blt b n=true):σ.low n b=σ b:=by unfold bl.low;rw[h];rfl
mutual
theorem FX{ρ:b4}{σ:bl}{n:Nat}:∀{v:K},v.n9 n=true->aE ρ (σ.low n) v=aE ρ σ v
 |.int ..,_=>by simp only[aE]
 |.bool _,_=>by simp only[aE]
 |.str _,_=>by simp only[aE]
 |.jo b o,h=>by simp only[K.n9]at h;simp only[aE,bl.BO h]
 |.pV,_=>by simp only[aE]
 |.slice b o len esz cap,h=>by simp only[K.n9]at h;simp only[aE,bl.BO h]
 |.bS,_=>by simp only[aE]
 |.map b,h=>by simp only[K.n9]at h;simp only[aE,bl.BO h]
 |.uo,_=>by simp only[aE]
 |.fn f a c,h=>by
  simp only[K.n9,dz]at h
  simp only[aE,A5 h.1,A5 h.2]
 |.rt b,h=>by simp only[K.n9]at h;simp only[aE,bl.BO h]
 |.wS,_=>by simp only[aE]
 |.iface t v,h=>by simp only[K.n9]at h;simp only[aE,FX h]
 |.BR,_=>by simp only[aE]
 |.agg l,h=>by simp only[K.n9]at h;simp only[aE,A5 h]
 |.tup l,h=>by simp only[K.n9]at h;simp only[aE,A5 h]
 |.sym i,_=>by simp only[aE]
 |.jx b o l esz,h=>by simp only[K.n9]at h;simp only[aE,bl.BO h]
theorem A5{ρ:b4}{σ:bl}{n:Nat}:∀{l:List K},yv n l=true->bU ρ (σ.low n) l=bU ρ σ l
 |[],_=>by simp only[bU]
 |v::l,h=>by
  simp only[yv,dz]at h
  simp only[bU,FX h.1,A5 h.2]
end
def Rm(n:Nat):List (K×K×Nat)->Bool
 |[]=>true
 |e::l=>e.1.n9 n&&e.2.1.n9 n&&Rm n l
theorem ae9{ρ:b4}{σ:bl}{n:Nat}:∀{l:List (K×K×Nat)} {r:List MapEntry},Rm n l=true->ox ρ σ l r->ox ρ (σ.low n) l r
 |[],[],_,_=>h5
 |e::l,m::r,h,⟨⟨H,I,b⟩,a⟩=>by
  simp only[Rm,dz]at h
  exact⟨⟨by rw[FX h.1.1];exact H,by rw[FX h.1.2];exact I,b⟩,ae9 h.2 a⟩
 |_::_,[],_,x=>x.elim
 |[],_::_,_,x=>x.elim
def em.n9(n:Nat):em->Bool
 |.cells _ vs _ _=>yv n vs
 |.map a _=>Rm n a
 |.aC _ vs=>yv n vs
 |_=>false
theorem io.low{ρ:b4}{σ:bl}{n:Nat}{p:lT}{o:Option Obj}:∀{x:em},x.n9 n=true->io ρ σ p o x->io ρ (σ.low n) p o x
 |.cells ..,h,⟨arr,bg,a,b,c,d,⟨cs,e,f⟩,g⟩=>⟨arr,bg,a,b,c,d,⟨cs,by rw[A5 h];exact e,f⟩,g⟩
 |.map ..,h,⟨a,i,b,c⟩=>⟨a,i,b,ae9 h c⟩
 |.aC ..,h,⟨cs,a,b,c⟩=>⟨cs,by rw[A5 h];exact a,b,c⟩
 |.mapIter ..,h,_=>by cases h
 |.loop ..,h,_=>by cases h
 |.deferred,h,_=>by cases h
theorem ae'{ρ:b4}{b d σ:bl}(ak:ke b d)(e:ke b σ):∀{l:List (K×K×Nat)} {fu c:List MapEntry},ox ρ b l fu->ox ρ d l c->ox ρ σ l c
 |[],[],[],_,_=>h5
 |a::l,m::r,k::s,⟨⟨H,I,p⟩,f⟩,⟨⟨g,j,i⟩,o⟩=>by
  have h:=gn ((tT ak H).symm.trans g)
  have n:=gn ((tT ak I).symm.trans j)
  exact⟨⟨by rw[←h];exact tT e H,by rw[←n];exact tT e I,i⟩,ae' ak e f o⟩
 |_::_,[],_,x,_=>x.elim
 |_::_,_::_,[],_,x=>x.elim
 |[],_::_,_,x,_=>x.elim
 |[],[],_::_,_,x=>x.elim
theorem io.arA{ρ:b4}{i l σ:bl}(ak:ke i l)(e:ke i σ){p:lT}{o j:Option Obj}:∀{x:em},(match x with|.cells .. =>True|.map .. =>True|.aC .. =>True|_=>False)->io ρ i p o x->io ρ l p j x->io ρ σ p j x
 |.cells ..,_,⟨_,_,_,_,_,_,⟨m,q,_⟩,_⟩,⟨arr,bg,a,b,c,d,⟨cs,k,f⟩,g⟩=>⟨arr,bg,a,b,c,d,⟨cs,by
  have:=gn ((pD ak q).symm.trans k)
  rw[←this];exact pD e q,f⟩,g⟩
 |.map ..,_,⟨_,_,_,q⟩,⟨a,n,b,c⟩=>⟨a,n,b,ae' ak e q c⟩
 |.aC ..,_,⟨m,q,_,_⟩,⟨cs,a,b,c⟩=>⟨cs,by
  have:=gn ((pD ak q).symm.trans a)
  rw[←this];exact pD e q,b,c⟩
 |.mapIter ..,h,_,_=>h.elim
 |.loop ..,h,_,_=>h.elim
 |.deferred,h,_,_=>h.elim
def LZ(m:ma)(args:List K)(h:ay):Option (K×ay):=
 bif K.oo args m.args&&Nat.ble m.nx h.nx&&pH h m.pre then some (m.v,h)else none
def BZ(m:ma)(r:Option (K×ay)):Bool:=match r with
 |some (v,h)=>K.beq v m.v&&pH h m.pre&&n7 m.pre&&m.v.n9 0&&yv m.nx m.args&&m.pre.all fun p=>Nat.blt p.1 m.nx&&p.2.n9 m.nx
 |none=>false
theorem aEF{ρ:b4}{σ σ':bl}{v:K}(h:v.n9 0=true):aE ρ σ v=aE ρ σ' v:=by
 rw[←FX (σ:=σ) h,←FX (σ:=σ') h];congr 1
theorem jE.low{P:Program}{σ:bl}{n:Nat}(h:jE P σ)(b:P.globals.size<=n):jE P (σ.low n):=fun g a=>by
 obtain⟨t,ah⟩:=h g a
 exact⟨t,by rw[bl.BO bu];exact ah⟩
theorem Hl{P:Program}{ρ:b4}{f:FuncId}{call:List K->ay->Option (K×ay)}(W:ls P ρ f call){m:ma}(B:P.globals.size<=m.nx)(g:BZ m (call m.args m.heap)=true):ls P ρ f (LZ m):=by
 intro σ args h v bf cs w al h8 i J;unfold LZ at J;cases A:(K.oo args m.args&&Nat.ble m.nx h.nx&&pH h m.pre)with
 |false=>rw[A]at J;simp at J
 |true=>
  rw[A]at J;simp only[er,cb,g9]at J;obtain⟨rfl,rfl⟩:=J;simp only[dz]at A;obtain⟨⟨H,I⟩,af⟩:=A;have H:=K.sN H;subst H;have I:=gP I;unfold BZ at g;cases l:call m.args m.heap with
  |none=>rw[l]at g;simp at g
  |some r=>
   obtain⟨eJ,O⟩:=r;rw[l]at g;simp only[dz]at g;obtain⟨⟨⟨⟨⟨ce,eb⟩,eV⟩,oF⟩,wL⟩,N⟩:=g;have ce:=K.beq_eq ce;subst ce;have N:=fun p ag=>hs.1 N p ag;have V:=fun p ag=>Q2 eV (p:=p) ag;have d:∀b x,m.heap.cK b=some x->(b,x)∈m.pre:=fun b x A=>by
    rcases L1 V A with e|e
    ·exact e
    ·simp[ay.cK,T.cK]at e
   have j:∀b x,(b,x)∈m.pre->h.cK b=some x:=fun b x A=>Gs af A;have R:∀b x,(b,x)∈m.pre->Nat.blt b m.nx=true/\x.n9 m.nx=true:=fun b x A=>by simpa using N (b,x) A
   have pM:m.heap.nx=m.nx:=by unfold ma.heap;rw[B0]
   have k:=σ.ax9 m.nx;have Y:c6 ρ (σ.low m.nx) m.heap w:=⟨fun b x A=>(by
     obtain⟨C,u⟩:=R b x (d b x A)
     obtain⟨p,ag,n⟩:=i.aU b x (j b x (d b x A))
     exact⟨p,by rw[bl.BO C];exact ag,n.low u⟩),fun b L x G p bQ A fq X jU=>i.inj b L x G p bQ (j b x (d b x A)) (j L G (d L G fq)) (k _ _ X) (k _ _ jU),fun b A=>by
    rw[pM]at A
    have:Nat.blt b m.nx=false:=by
     cases az:Nat.blt b m.nx with
     |false=>rfl
     |true=>simp at az;omega
    simp[bl.low,this]⟩
   have S:∀c w',oc ρ (σ.low m.nx) m.heap w m.v O c w'->oc ρ σ h w m.v h c w':=fun c w' ⟨iy,U,aa,a⟩=>by
    refine⟨σ,by rw[aEF oF (σ':=iy)];exact U,⟨fun b x A=>?_,i.inj,i.jy⟩,⟨.refl _,fun b H I=>(I H).elim,aZ _,a.size,fun r l B=>a.kept r l fun⟨b,x,p,q,F,E⟩=>B ⟨b,x,p,j b x (d b x q),k _ _ F,E⟩,fun r D=>.inr D,a.os,a.output,a.tape⟩⟩;obtain⟨p,ag,n⟩:=i.aU b x A;refine⟨p,ag,?_⟩;by_cases Q:∃y,m.heap.cK b=some y
    ·obtain⟨y,Z⟩:=Q;have M:=d b y Z;obtain rfl:x=y:=gn (A.symm.trans (j b y M));obtain⟨C,u⟩:=R b x M;have iu:σ.low m.nx b=some p:=by rw[bl.BO C];exact ag
     obtain⟨dS,ir,ab⟩:=aa.aU b x (Gs eb M);obtain rfl:p=dS:=gn ((a.ext _ _ iu).symm.trans ir);refine io.arA a.ext k ?_ (n.low u) ab;cases x<;>first|trivial|(simp[em.n9]at u)
    ·obtain⟨o,D⟩:=n.some;have aq:p.aU<w.heap.size:=(hl.1 D).1;rw[a.kept p.aU aq fun⟨s,t,eo,q,F,E⟩=>?_]
     ·exact n
     ·have b5:b≠s:=fun e=>Q ⟨t,by rw[e];exact q⟩;exact i.inj b s x t p eo A (j s t (d s t q)) ag (k _ _ F) b5 E.symm
   rcases W (σ.low m.nx) m.args m.heap m.v O cs w (al.low B) (by rw[A5 wL];exact h8) Y l with⟨c,w',ak,z⟩|⟨ak,z⟩
   ·exact .inl ⟨c,w',ak,S c w' z⟩
   ·exact .inr ⟨ak,z.mono S⟩
def Ex:List ma->List K->ay->Option (K×ay)
 |[],_,_=>none
 |m::l,args,h=>match LZ m args h with
  |some r=>some r
  |none=>Ex l args h
theorem L0{P:Program}{ρ:b4}{f:FuncId}:∀{l:List ma},(∀m∈l,ls P ρ f (LZ m))->ls P ρ f (Ex l)
 |[],_=>by intro σ args h v d cs w _ _ _ J;cases J
 |m::l,b=>by
  intro σ args h v d cs w c g e J
  simp only[Ex]at J
  cases a:LZ m args h with
  |some r=>rw[a]at J;cases J;exact b m (mQ ..) σ args h _ _ cs w c g e a
  |none=>rw[a]at J;exact L0 (fun q i=>b q (i6 _ i)) σ args h v d cs w c g e J
end Go.ch
