/- ItemInForce, one part of the proof. -/
import Derived.Test.YtdhifebhlocikaaGreatDoorP02
set_option linter.all false
set_option maxRecDepth 100000
set_option maxHeartbeats 16000000
namespace Go.cE
inductive ei where
 |fail
 |iH (x:gU)
 |exit (id:Nat) (x:gU)
 |ret (x:gU)
def ei.jJ:ei->Option (X×gU)
 |.fail=>none
 |.iH x=>some (.iH,x)
 |.exit id x=>some (.exit id,x)
 |.ret x=>some (.ret,x)
def VB{b:Type}(a:b):b:=a
noncomputable def aIR:U->Bool:= @U.rec (λ_=>Bool) (λ_=>Unit) (λ_ _=>true) (λ_=>true) (λ_=>true) (λ_ _=>true) true (λ_ _ _ _ _=>true) true (λ_=>true) true (λ_ _ _ _ _=>true) (λ_=>true) true (λ_ _ _=>true) true (λ_ _=>true) (λ_ _=>true) (λ_=>true) (λ_ _ _ _=>true) () (λ_ _ _ _=>())
noncomputable def BY(v:U):Bool:=aIR v
noncomputable def aGv:U->(IntKind->Int->Option U)->Option U:= @U.rec (λ_=>(IntKind->Int->Option U)->Option U) (λ_=>Unit) (λb a k=>k b a) (λ_ _=>none) (λ_ _=>none) (λ_ _ _=>none) (λ_=>none) (λ_ _ _ _ _ _=>none) (λ_=>none) (λ_ _=>none) (λ_=>none) (λ_ _ _ _ _ _=>none) (λ_ _=>none) (λ_=>none) (λ_ _ _ _=>none) (λ_=>none) (λ_ _ _=>none) (λ_ _ _=>none) (λ_ _=>none) (λ_ _ _ _ _=>none) () (λ_ _ _ _=>())
noncomputable def G0(v:U)(k:IntKind->Int->Option U):Option U:=aGv v k
noncomputable def aGr:U->(Bool->Option U)->Option U:= @U.rec (λ_=>(Bool->Option U)->Option U) (λ_=>Unit) (λ_ _ _=>none) (λa k=>k a) (λ_ _=>none) (λ_ _ _=>none) (λ_=>none) (λ_ _ _ _ _ _=>none) (λ_=>none) (λ_ _=>none) (λ_=>none) (λ_ _ _ _ _ _=>none) (λ_ _=>none) (λ_=>none) (λ_ _ _ _=>none) (λ_=>none) (λ_ _ _=>none) (λ_ _ _=>none) (λ_ _=>none) (λ_ _ _ _ _=>none) () (λ_ _ _ _=>())
noncomputable def apZ(v:U)(k:Bool->Option U):Option U:=aGr v k
noncomputable def aGw:U->(Nat->Nat->Option U)->Option U:= @U.rec (λ_=>(Nat->Nat->Option U)->Option U) (λ_=>Unit) (λ_ _ _=>none) (λ_ _=>none) (λ_ _=>none) (λb a k=>k b a) (λ_=>none) (λ_ _ _ _ _ _=>none) (λ_=>none) (λ_ _=>none) (λ_=>none) (λ_ _ _ _ _ _=>none) (λ_ _=>none) (λ_=>none) (λ_ _ _ _=>none) (λ_=>none) (λ_ _ _=>none) (λ_ _ _=>none) (λ_ _=>none) (λ_ _ _ _ _=>none) () (λ_ _ _ _=>())
noncomputable def acF(v:U)(k:Nat->Nat->Option U):Option U:=aGw v k
noncomputable def aGz:U->(List Nat->Option U)->Option U:= @U.rec (λ_=>(List Nat->Option U)->Option U) (λ_=>Unit) (λ_ _ _=>none) (λ_ _=>none) (λa k=>k a) (λ_ _ _=>none) (λ_=>none) (λ_ _ _ _ _ _=>none) (λ_=>none) (λ_ _=>none) (λ_=>none) (λ_ _ _ _ _ _=>none) (λ_ _=>none) (λ_=>none) (λ_ _ _ _=>none) (λ_=>none) (λ_ _ _=>none) (λ_ _ _=>none) (λ_ _=>none) (λ_ _ _ _ _=>none) () (λ_ _ _ _=>())
noncomputable def PM(v:U)(k:List Nat->Option U):Option U:=aGz v k
noncomputable def aGt:U->(Bool->ei)->ei:= @U.rec (λ_=>(Bool->ei)->ei) (λ_=>Unit) (λ_ _ _=>.fail) (λa k=>k a) (λ_ _=>.fail) (λ_ _ _=>.fail) (λ_=>.fail) (λ_ _ _ _ _ _=>.fail) (λ_=>.fail) (λ_ _=>.fail) (λ_=>.fail) (λ_ _ _ _ _ _=>.fail) (λ_ _=>.fail) (λ_=>.fail) (λ_ _ _ _=>.fail) (λ_=>.fail) (λ_ _ _=>.fail) (λ_ _ _=>.fail) (λ_ _=>.fail) (λ_ _ _ _ _=>.fail) () (λ_ _ _ _=>())
noncomputable def aGs(v:U)(k:Bool->ei):ei:=aGt v k
noncomputable def aqA(c a b:U):Option U:=apZ c λt=> @Bool.rec (λ_=>Option U) (@Bool.rec (λ_=>Option U) none (some b) (BY b)) (@Bool.rec (λ_=>Option U) none (some a) (BY a)) t
noncomputable def ZE(l:List Nat)(m:Nat):Option Nat:= @List.rec Nat (λ_=>Nat->Option Nat) (λ_=>none) (λa _ b m=> @Nat.rec (λ_=>Option Nat) (some a) (λp _=>b p) m) l m
def akm:∀(l:List Nat) (m:Nat),ZE l m=l[m]?
 |[],m=>rfl
 |a::l,0=>rfl
 |a::l,m+1=>by show ZE l m=_;rw[akm l m];simp
noncomputable def abO(l:List Nat):Nat:= @List.rec Nat (λ_=>Nat) 0 (λ_ _ a=>Nat.succ a) l
def anF:∀(l:List Nat),abO l=l.length
 |[]=>rfl
 |a::l=>by show Nat.succ (abO l)=_;rw[anF l];simp
noncomputable def Vl(l:List Nat):List Nat->Bool:= @List.rec Nat (λ_=>List Nat->Bool) (λm=> @List.rec Nat (λ_=>Bool) true (λ_ _ _=>false) m) (λa _ c m=> @List.rec Nat (λ_=>Bool) false (λb m _=> @Bool.rec (λ_=>Bool) false (c m) (Nat.beq a b)) m) l
def ada:∀(l m:List Nat),Vl l m=xv l m
 |[],[]=>rfl
 |[],_::_=>rfl
 |_::_,[]=>rfl
 |a::l,b::m=>by show @Bool.rec (λ_=>Bool) false (Vl l m) (Nat.beq a b)=_;rw[xv,ada l m];cases Nat.beq a b<;>rfl
noncomputable def amY(s i:U):Option U:=PM s λl=>G0 i λ_ n=> @Int.rec (λ_=>Option U) (λm=> @Option.rec Nat (λ_=>Option U) none (λb=>some (.int .u8 (.ofNat b))) (ZE l m)) (λ_=>none) n
noncomputable def anG(s:U):Option U:=PM s λl=>wg (abO l)
noncomputable def aj1(off:Nat)(p:U):Option U:=acF p λb o=>wo (Nat.add o off) λq=>some (.ji b q)
noncomputable def Pj(a b:Int):Bool:= @Int.rec (λ_=>Bool) (λm=> @Int.rec (λ_=>Bool) (λn=>Nat.blt m n) (λ_=>wd a b) b) (λ_=>wd a b) a
def aEu(a b:Int):Pj a b=wd a b:=by cases a<;>cases b<;>rfl
noncomputable def Y6(a b:Int):Bool:= @Int.rec (λ_=>Bool) (λm=> @Int.rec (λ_=>Bool) (λn=>Nat.beq m n) (λ_=>wU a b) b) (λ_=>wU a b) a
def ay6(a b:Int):Y6 a b=wU a b:=by cases a<;>cases b<;>rfl
inductive yX where
 |eql
 |neq
 |lss
 |leq
 |gtr
 |geq
def yX.op:yX->BinOp
 |.eql=>.eql
 |.neq=>.neq
 |.lss=>.lss
 |.leq=>.leq
 |.gtr=>.gtr
 |.geq=>.geq
noncomputable def El(b:Bool):Bool:= @Bool.rec (λ_=>Bool) true false b
def apL(b:Bool):El b= !b:=by cases b<;>rfl
noncomputable def aiP(c:yX):Int->Int->Bool:= @yX.rec (λ_=>Int->Int->Bool) (λa b=>Y6 a b) (λa b=>El (Y6 a b)) (λa b=>Pj a b) (λa b=>El (Pj b a)) (λa b=>Pj b a) (λa b=>El (Pj a b)) c
noncomputable def Sx(b:Bool):Option U:= @Bool.rec (λ_=>Option U) (some (.bool false)) (some (.bool true)) b
def X7(b:Bool):Sx b=some (.bool b):=by cases b<;>rfl
noncomputable def anr:IntKind->Nat:= @IntKind.rec (λ_=>Nat) 0 1 2 3 4 5 6 7
noncomputable def WF(a b:IntKind):Bool:=Nat.beq (anr a) (anr b)
def anq{a b:IntKind}(h:WF a b=true):a=b:=by cases a<;>cases b<;>first|rfl|cases h
noncomputable def aiO(c:yX)(x y:U):Option U:=G0 x λj a=>G0 y λk b=> @Bool.rec (λ_=>Option U) none (Sx (aiP c a b)) (WF j k)
noncomputable def ajS(neg:Bool)(x y:U):Option U:=PM x λa=>PM y λb=> @Bool.rec (λ_=>Option U) (Sx (Vl a b)) (Sx (El (Vl a b))) neg
noncomputable def aFF:U->Option U:= @U.rec (λ_=>Option U) (λ_=>Unit) (λ_ _=>none) (λ_=>none) (λ_=>none) (λb o=>some (.ji b o)) none (λ_ _ _ _ _=>none) none (λ_=>none) none (λf x y _ _=>some (.fn f x y)) (λb=>some (.xF b)) none (λt v _=>some (.iface t v)) none (λ_ _=>none) (λ_ _=>none) (λ_=>none) (λ_ _ _ _=>none) () (λ_ _ _ _=>())
noncomputable def apH(v:U):Option U:=aFF v
noncomputable def aD_:U->Option U:= @U.rec (λ_=>Option U) (λ_=>Unit) (λ_ _=>none) (λ_=>none) (λ_=>none) (λ_ _=>none) none (λ_ _ n _ _=>wg n) (wg 0) (λ_=>none) none (λ_ _ _ _ _=>none) (λ_=>none) none (λ_ _ _=>none) none (λ_ _=>none) (λ_ _=>none) (λ_=>none) (λ_ _ _ _=>wg 0) () (λ_ _ _ _=>())
noncomputable def anE(v:U):Option U:=aD_ v
noncomputable def aGx:U->(Nat->Nat->Nat->Option U)->Option U:= @U.rec (λ_=>(Nat->Nat->Nat->Option U)->Option U) (λ_=>Unit) (λ_ _=>λ_=>none) (λ_=>λ_=>none) (λ_=>λ_=>none) (λ_ _=>λ_=>none) (λ_=>none) (λb o n _ _ k=>k b o n) (λ_=>none) (λ_=>λ_=>none) (λ_=>none) (λ_ _ _ _ _=>λ_=>none) (λ_=>λ_=>none) (λ_=>none) (λ_ _ _=>λ_=>none) (λ_=>none) (λ_ _=>λ_=>none) (λ_ _=>λ_=>none) (λ_=>λ_=>none) (λ_ _ _ _=>λ_=>none) () (λ_ _ _ _=>())
noncomputable def ap1(v:U)(k:Nat->Nat->Nat->Option U):Option U:=aGx v k
noncomputable def aic(x y:U):Option U:=G0 x λj a=>G0 y λk b=> @Bool.rec (λ_=>Option U) none (yy j (XM a b)) (WF j k)
noncomputable def amV(n:Nat)(x y:U):Option U:=ap1 x λb o len=>G0 y λ_ i=> @Int.rec (λ_=>Option U) (λm=> @Bool.rec (λ_=>Option U) none (wo (o+m*n) λq=>some (.ji b q)) (Nat.blt m len)) (λ_=>none) i
noncomputable def NH(l:List U)(m:Nat):Option U:= @List.rec U (λ_=>Nat->Option U) (λ_=>none) (λa _ b m=> @Nat.rec (λ_=>Option U) (some a) (λp _=>b p) m) l m
def ZD:∀(l:List U) (m:Nat),NH l m=l[m]?
 |[],m=>rfl
 |a::l,0=>rfl
 |a::l,m+1=>by show NH l m=_;rw[ZD l m];simp
noncomputable def axy:eK->(List U->Option U)->Option U:= @eK.rec (λ_=>(List U->Option U)->Option U) (λ_ vs _ _ k=>k vs) (λ_ _ _=>none) (λ_ _ _ _ _=>none) (λ_ _ _ _ _ _ _=>none) (λ_=>none) (λ_ vs k=>k vs)
noncomputable def S_:T eK->Nat->Option eK:= @T.rec eK (λ_=>Nat->Option eK) (λ_=>none) (λv _ _ b a k=> @Bool.rec (λ_=>Option eK) (@Bool.rec (λ_=>Option eK) (a (Nat.sub (Nat.div k 2) 1)) (b (Nat.div k 2)) (Nat.beq (Nat.mod k 2) 1)) v (Nat.beq k 0))
def ZF:∀(t:T eK) (k:Nat),S_ t k=t.cW k
 |.e,k=>rfl
 |.n v l r,k=>by show @Bool.rec (λ_=>Option eK) (@Bool.rec (λ_=>Option eK) (S_ r (Nat.sub (Nat.div k 2) 1)) (S_ l (Nat.div k 2)) (Nat.beq (Nat.mod k 2) 1)) v (Nat.beq k 0)=_;rw[T.cW,ZF l,ZF r];cases Nat.beq k 0<;>cases Nat.beq (Nat.mod k 2) 1<;>rfl
noncomputable def anC(x:U)(h:ay):Option U:=acF x λb off=> @Option.rec eK (λ_=>Option U) none (λq=>axy q λvs=>NH vs off) (S_ h.t b)
inductive jz where
 |gen (c:iA)
 |acl (d:Nat) (x:S->U)
 |ZG (ml:S->U) (ip:Bool) (d:Nat) (x:S->U)
 |pick (ed:Option ((S->U)×Bool)) (d:Option Nat) (c x y:S->U)
 |Yo (ed:Option ((S->U)×Bool)) (d:Option Nat) (c:yX) (x y:S->U)
 |S3 (ed:Option ((S->U)×Bool)) (d:Option Nat) (neg:Bool) (x y:S->U)
 |index (ed:Option ((S->U)×Bool)) (d:Option Nat) (x y:S->U)
 |abP (ed:Option ((S->U)×Bool)) (d:Option Nat) (x:S->U)
 |field (ed:Option ((S->U)×Bool)) (d:Option Nat) (off:Nat) (x:S->U)
 |acq (ed:Option ((S->U)×Bool)) (d:Option Nat) (x:S->U)
 |abN (ed:Option ((S->U)×Bool)) (d:Option Nat) (x:S->U)
 |add (ed:Option ((S->U)×Bool)) (d:Option Nat) (x y:S->U)
 |abq (ed:Option ((S->U)×Bool)) (d:Option Nat) (n:Nat) (x y:S->U)
 |BR (ed:Option ((S->U)×Bool)) (d:Option Nat) (n:Nat) (x:S->U)
def jz.sJ:jz->iA
 |.gen c=>c
 |.acl d x=>⟨none,some d,[x],.pS (.pure BT)⟩
 |.ZG b a d x=>⟨some (b,a),some d,[x],.pS (.pure BT)⟩
 |.pick ed d c x y=>⟨ed,d,[c,x,y],.pS (.pure PP)⟩
 |.Yo ed d c x y=>⟨ed,d,[x,y],.pS (.pure (uo c.op))⟩
 |.S3 ed d neg x y=>⟨ed,d,[x,y],.pS (.pure (uo (bif neg then .neq else .eql)))⟩
 |.index ed d x y=>⟨ed,d,[x,y],.pS (.pure J2)⟩
 |.abP ed d x=>⟨ed,d,[x],.pS (.pure Pg)⟩
 |.field ed d off x=>⟨ed,d,[x],.pS (.pure (ND off))⟩
 |.acq ed d x=>⟨ed,d,[x],.pS (.pure Pw)⟩
 |.abN ed d x=>⟨ed,d,[x],.pS (.pure Pf)⟩
 |.add ed d x y=>⟨ed,d,[x,y],.pS (.pure (uo .add))⟩
 |.abq ed d n x y=>⟨ed,d,[x,y],.pS (.pure (J1 n))⟩
 |.BR ed d n x=>⟨ed,d,[x],.pS (.sB (Ei false n))⟩
noncomputable def U4(d:Option Nat)(v:U)(s:S):S:= @Option.rec Nat (λ_=>S) s (λd=>put d v s) d
def acU(d:Option Nat)(v:U)(s:S):U4 d v s=pP d v s:=by cases d<;>rfl
noncomputable def az6:U->Bool->(Bool->ei)->ei:= @U.rec (λ_=>Bool->(Bool->ei)->ei) (λ_=>Unit) (λ_ _ _ k=>k false) (λb w k=>k (@Bool.rec (λ_=>Bool) (El w) w b)) (λ_ _ k=>k false) (λ_ _ _ k=>k false) (λ_ k=>k false) (λ_ _ _ _ _ _ k=>k false) (λ_ k=>k false) (λ_ _ k=>k false) (λ_ k=>k false) (λ_ _ _ _ _ _ k=>k false) (λ_ _ k=>k false) (λ_ k=>k false) (λ_ _ _ _ k=>k false) (λ_ k=>k false) (λ_ _ _ k=>k false) (λ_ _ _ k=>k false) (λ_ _ _=>.fail) (λ_ _ _ _ _ k=>k false) () (λ_ _ _ _=>())
noncomputable def Tc(v:U)(a:Bool)(k:Bool->ei):ei:=az6 v a k
def az7(v:U)(a:Bool)(k:Bool->ei):Tc v a k= @Option.rec Bool (λ_=>ei) .fail k (zA v a):=by cases v<;>first|rfl|(rename_i b;cases b<;>cases a<;>rfl)
noncomputable def S9(ed:Option ((S->U)×Bool))(d:Option Nat)(s:S)(h:ay)(k:S->ay->ei)(go:ei):ei:=
 @Option.rec _ (λ_=>ei) go (λp=>Tc (p.1 s) p.2 λb=> @Bool.rec (λ_=>ei) (k (U4 d qG s) h) go b) ed
noncomputable def uW(ed:Option ((S->U)×Bool))(d:Option Nat)(s:S)(h:ay)(k:S->ay->ei)(r:Option U):ei:=
 S9 ed d s h k (@Option.rec U (λ_=>ei) .fail (λv=>k (U4 d v s) h) r)
noncomputable def aei(aH:List (S->U))(s:S):List U:= @List.rec _ (λ_=>List U) [] (λx _ a=>x s::a) aH
def asO(s:S):∀(aH:List (S->U)),aei aH s=nd aH s
 |[]=>rfl
 |x::l=>by show x s::aei l s=_;rw[asO s l];rfl
noncomputable def azW(c:iA)(E:jX)(s:S)(h:ay)(k:S->ay->ei):ei:=S9 c.guard c.dst s h k (@Option.rec _ (λ_=>ei) .fail (λr=>k (U4 c.dst r.1 s) r.2) (Ba E c.k (aei c.aH s) h))
noncomputable def aJ6:jz->jX->S->ay->(S->ay->ei)->ei:=
 @jz.rec (λ_=>jX->S->ay->(S->ay->ei)->ei) azW
  (λd x _ s h k=> @Bool.rec (λ_=>ei) .fail (k (put d (x s) s) h) (BY (x s)))
  (λe a d x _ s h k=>Tc (e s) a λb=> @Bool.rec (λ_=>ei) (k (put d qG s) h) (@Bool.rec (λ_=>ei) .fail (k (put d (x s) s) h) (BY (x s))) b)
  (λed d c x y _ s h k=>uW ed d s h k (aqA (c s) (x s) (y s)))
  (λed d c x y _ s h k=>uW ed d s h k (aiO c (x s) (y s)))
  (λed d neg x y _ s h k=>uW ed d s h k (ajS neg (x s) (y s)))
  (λed d x y _ s h k=>uW ed d s h k (amY (x s) (y s)))
  (λed d x _ s h k=>uW ed d s h k (anG (x s)))
  (λed d off x _ s h k=>uW ed d s h k (aj1 off (x s)))
  (λed d x _ s h k=>uW ed d s h k (apH (x s)))
  (λed d x _ s h k=>uW ed d s h k (anE (x s)))
  (λed d x y _ s h k=>uW ed d s h k (aic (x s) (y s)))
  (λed d n x y _ s h k=>uW ed d s h k (amV n (x s) (y s)))
  (λed d _ x _ s h k=>uW ed d s h k (anC (x s) h))
noncomputable def ase(E:jX)(o:jz)(s:S)(h:ay)(k:S->ay->ei):ei:=aJ6 o E s h k
noncomputable def arA(E:jX)(l:List jz):S->ay->(S->ay->ei)->ei:=
 @List.rec jz (λ_=>S->ay->(S->ay->ei)->ei) (λs h k=>k s h) (λo _ a s h k=>ase E o s h λs h=>a s h k) l
section
variable {E:jX}
variable{t:Bool}
def UY{a b:ei}{r:X×gU}(h:(@Bool.rec (λ_=>ei) a b t).jJ=some r):(t=true/\b.jJ=some r)∨(t=false/\a.jJ=some r):=by cases t;exact .inr ⟨rfl,h⟩;exact .inl ⟨rfl,h⟩
variable{d:Option Nat}
def akj{ed:Option ((S->U)×Bool)}{s:S}{h:ay}{k:S->ay->ei}{go:ei}{aH:List (S->U)}{op:x1}{l:List iA}{r:X×gU}{F:S×ay->Option (X×gU)} (i:∀s h,(k s h).jJ=some r->(oM E l s h).bind F=some r)(a:go.jJ=some r->((Ba E op (nd aH s) h).bind λq=>(oM E l (pP d q.1 s) q.2).bind F)=some r) (e:(S9 ed d s h k go).jJ=some r):(oM E (⟨ed,d,aH,op⟩::l) s h).bind F=some r:=by
 simp only[oM];have g:∀q,q=(Ba E op (nd aH s) h)->(q.bind λq=>(oM E l (pP d q.1 s) q.2).bind F)=some r->Option.bind (match q with|some (v,f)=>oM E l (pP d v s) f|none=>none) F=some r:=λq _ c=>by
  cases q with
  |none=>simp at c
  |some q=>let⟨v,f⟩:=q;simpa using c
 cases ed with
 |none=>exact g _ rfl (a e)
 |some p=>
  let⟨x,j⟩:=p;simp only[S9,az7]at e;cases ar:zA (x s) j with
  |none=>rw[ar]at e;simp[ei.jJ]at e
  |some b=>
   rw[ar]at e;simp only[ar];cases b with
   |false=>simp only at e|-;rw[acU]at e;exact i _ _ e
   |true=>simp only at e|-;exact g _ rfl (a e)
def Ad{ed:Option ((S->U)×Bool)}{s:S}{h:ay}{k:S->ay->ei}{v:Option U}{aH:List (S->U)}{f:List U->Option U}{l:List iA}{r:X×gU}{F:S×ay->Option (X×gU)} (J:∀u,v=some u->f (nd aH s)=some u)(Q:∀s h,(k s h).jJ=some r->(oM E l s h).bind F=some r) (e:(uW ed d s h k v).jJ=some r):(oM E (⟨ed,d,aH,.pS (.pure f)⟩::l) s h).bind F=some r:=by exact aoA
def Ki{v:U}{k:IntKind->Int->Option U}{u:U}(h:G0 v k=some u):∃j n,v=.int j n/\k j n=some u:=by cases v<;>first|exact⟨_,_,rfl,h⟩|cases h
def aGu{v:U}{k:Bool->Option U}{u:U}(h:apZ v k=some u):∃b,v=.bool b/\k b=some u:=by cases v<;>first|exact⟨_,rfl,h⟩|cases h
def ap0{v:U}{k:Nat->Nat->Option U}{u:U}(h:acF v k=some u):∃b o,v=.ji b o/\k b o=some u:=by cases v<;>first|exact⟨_,_,rfl,h⟩|cases h
def UX{v:U}{k:List Nat->Option U}{u:U}(h:PM v k=some u):∃s,v=.str s/\k s=some u:=by cases v<;>first|exact⟨_,rfl,h⟩|cases h
def PX{a:Option U}{u:U}(h: @Bool.rec (λ_=>Option U) none a t=some u):t=true/\a=some u:=by cases t;cases h;exact⟨rfl,h⟩
def aHa{c a b u:U}(af:aqA c a b=some u):PP [c,a,b]=some u:=by obtain⟨t,rfl,h⟩:=aGu af;cases t;exact(PX h).2;exact(PX h).2
def axP{c:yX}{x y u:U}(af:aiO c x y=some u):uo c.op [x,y]=some u:=by
 obtain⟨j,a,rfl,H⟩:=Ki af;obtain⟨k,b,rfl,I⟩:=Ki (v:=y) H;let⟨f,d⟩:=PX I;rw[X7]at d;have e:decide (j=k)=true:=by simp[anq f]
 cases c<;>simp only[uo,yX.op,Ed,jL,e,eZ,MM]<;>rw[<-d]<;>simp[aiP,apL,aEu,ay6]
def ay9{neg:Bool}{x y u:U}(af:ajS neg x y=some u):uo (bif neg then .neq else .eql) [x,y]=some u:=by obtain⟨a,rfl,H⟩:=UX af;obtain⟨b,rfl,I⟩:=UX (v:=y) H;cases neg;simp only[X7]at I;rw[<-I];simp[uo,MN,ada];simp only[X7]at I;rw[<-I];simp[uo,MN,ada,apL]
def aDb{x y u:U}(af:amY x y=some u):J2 [x,y]=some u:=by
 obtain⟨l,rfl,H⟩:=UX af;obtain⟨j,n,rfl,h⟩:=Ki (v:=y) H;cases n with
 |ofNat m=>
  simp only[akm]at h;simp only[J2];cases a:l[m]? with
  |none=>rw[a]at h;cases h
  |some b=>rw[a]at h;simpa[Aq]using h
 |negSucc m=>cases h
def aEb{x u:U}(af:anG x=some u):Pg [x]=some u:=by obtain⟨l,rfl,h⟩:=UX af;rw[anF]at h;exact h
def azu{off:Nat}{x u:U}(af:aj1 off x=some u):ND off [x]=some u:=by obtain⟨b,o,rfl,h⟩:=ap0 af;rw[Aq]at h;exact h
def aFG{x u:U}(h:apH x=some u):Pw [x]=some u:=by cases x<;>first|exact h|cases h
def aD'{x u:U}(h:anE x=some u):Pf [x]=some u:=by cases x<;>first|exact h|cases h
def awF{x y u:U}(af:aic x y=some u):uo .add [x,y]=some u:=by obtain⟨j,a,rfl,H⟩:=Ki af;obtain⟨k,b,rfl,I⟩:=Ki (v:=y) H;let⟨c,d⟩:=PX I;have c:=anq c;subst c;simpa[uo,Ed,MM]using d
def aGy{v:U}{k:Nat->Nat->Nat->Option U}{u:U}(h:ap1 v k=some u):∃b o n e c,v=.slice b o n e c/\k b o n=some u:=by cases v<;>first|exact⟨_,_,_,_,_,rfl,h⟩|cases h
def aC6{n:Nat}{x y u:U}(af:amV n x y=some u):J1 n [x,y]=some u:=by
 obtain⟨b,o,len,e,c,rfl,H⟩:=aGy af;obtain⟨k,i,rfl,I⟩:=Ki (v:=y) H;cases i with
 |ofNat m=>let⟨d,a⟩:=PX I;simp only[J1,d,eZ];exact a
 |negSucc m=>cases I
def aD6{n:Nat}{x u:U}{h:ay}(af:anC x h=some u):Ei false n [x] h=some u:=by
 obtain⟨b,off,rfl,H⟩:=ap0 af;simp only[ZF]at H;have ar:h.cW b=h.t.cW b:=rfl;simp only[Ei,ar];cases a:h.t.cW b with
 |none=>rw[a]at H;cases H
 |some q=>
  rw[a]at H;cases q<;>first|(cases H;done)|skip
  rename_i c vs d wr;have I:NH vs off=some u:=H;rw[ZD]at I;simpa using I;rename_i c vs;have I:NH vs off=some u:=H;rw[ZD]at I;simpa using I
def aEh{ed:Option ((S->U)×Bool)}{s:S}{h:ay}{k:S->ay->ei}{v:Option U}{aH:List (S->U)}{f:List U->ay->Option U}{l:List iA}{r:X×gU}{F:S×ay->Option (X×gU)} (J:∀u,v=some u->f (nd aH s) h=some u)(Q:∀s h,(k s h).jJ=some r->(oM E l s h).bind F=some r) (e:(uW ed d s h k v).jJ=some r):(oM E (⟨ed,d,aH,.pS (.sB f)⟩::l) s h).bind F=some r:=by exact aoA
def aJ8{o:jz}{l:List iA}{s:S}{h:ay}{k:S->ay->ei}{r:X×gU}{F:S×ay->Option (X×gU)}(a:∀s h,(k s h).jJ=some r->(oM E l s h).bind F=some r) (e:(ase E o s h k).jJ=some r):(oM E (o.sJ::l) s h).bind F=some r:=by
 cases o with
 |gen c=>
  let⟨ed,d,aH,op⟩:=c;refine akj a (λaP=>?_) e;simp only[asO]at aP;cases m:Ba E op (nd aH s) h with
  |none=>rw[m]at aP;simp[ei.jJ]at aP
  |some q=>rw[m]at aP;simp only[acU]at aP;exact a _ _ aP
 |acl d x=>
  rcases UY e with⟨_,e⟩|⟨_,e⟩
  simp only[jz.sJ,oM,nd,Ba,zh,BT,pP];exact a _ _ e
  .simp[ei.jJ]at e
 |ZG t f d x=>
  have g:(Tc (t s) f λb=> @Bool.rec (λ_=>ei) (k (put d qG s) h) (@Bool.rec (λ_=>ei) .fail (k (put d (x s) s) h) (BY (x s))) b).jJ=some r:=e;simp only[jz.sJ,oM,nd,Ba,zh,BT,pP];cases ar:t s<;>rw[ar]at g<;>first|(cases g;done)|(simp only[zA];exact a _ _ g)|skip
  rename_i b;have p:(@Bool.rec (λ_=>ei) (k (put d qG s) h) (@Bool.rec (λ_=>ei) .fail (k (put d (x s) s) h) (BY (x s))) (@Bool.rec (λ_=>Bool) (El f) f b)).jJ=some r:=g;have G:(@Bool.rec (λ_=>Bool) (El f) f b)=(b==f):=by cases b<;>cases f<;>rfl
  rw[G]at p;rcases UY p with⟨H,i⟩|⟨H,i⟩
  .simp only[zA,H];rcases UY i with⟨_,j⟩|⟨_,j⟩
   exact a _ _ j;cases j
  .simp only[zA,H];exact a _ _ i
 |pick ed d c x y=>exact Ad (λu hu=>aHa hu) a e
 |Yo ed d c x y=>exact Ad (λu hu=>axP hu) a e
 |S3 ed d neg x y=>exact Ad (λu hu=>ay9 hu) a e
 |index ed d x y=>exact Ad (λu hu=>aDb hu) a e
 |abP ed d x=>exact Ad (λu hu=>aEb hu) a e
 |field ed d off x=>exact Ad (λu hu=>azu hu) a e
 |acq ed d x=>exact Ad (λu hu=>aFG hu) a e
 |abN ed d x=>exact Ad (λu hu=>aD' hu) a e
 |add ed d x y=>exact Ad (λu hu=>awF hu) a e
 |abq ed d n x y=>exact Ad (λu hu=>aC6 hu) a e
 |BR ed d n x=>exact aEh (λu hu=>aD6 hu) a e
def arB{r:X×gU}{F:S×ay->Option (X×gU)}{k:S->ay->ei}(a:∀s h,(k s h).jJ=some r->F (s,h)=some r):∀{l:List jz} {s:S} {h:ay},(arA E l s h k).jJ=some r->(oM E (l.map jz.sJ) s h).bind F=some r
 |[],s,h,e=>by simp only[ER,oM,CQ];exact a _ _ e
 |o::l,s,h,e=>by simp only[qu];exact aJ8 (λs h aP=>arB a aP) e
end
end Go.cE
namespace Go.cE
open Go.Proofs.Tryz
inductive wD where
 |skip
 |exit (id:Nat)
 |ret
 |seq (a b:wD)
 |cond (t:S->U) (a b:wD)
 |block (id:Nat) (a:wD)
 |loop (a:wD)
 |region (rs:List jz)
 |FI (rs:List qw) (cb:Nat)
 |range (key aB:Nat) (gP:S->U)
 |fail
def wD.Cw:wD->nf
 |.skip=>.skip
 |.exit id=>.exit id
 |.ret=>.ret
 |.seq a b=>.seq a.Cw b.Cw
 |.cond t a b=>.cond t a.Cw b.Cw
 |.block id a=>.block id a.Cw
 |.loop a=>.loop a.Cw
 |.region rs=>.region (rs.map jz.sJ)
 |.FI rs c=>.FI rs c
 |.range key aB d=>.range key aB d
 |.fail=>.fail
noncomputable def BZ(q:c' U):Bool:= @c'.rec U (λ_=>Bool) (λ_ _ _ _ _ _ _ _ _ _ _ _ _ _ _ _=>true) q
noncomputable def ED(a b:Bool):Bool:= @Bool.rec (λ_=>Bool) false b a
noncomputable def VD(s:S):Bool:=ED (BZ s.a0) (ED (BZ s.bZ) (ED (BZ s.cz) (ED (BZ s.a3) (ED (BZ s.a4) (ED (BZ s.a5) (ED (BZ s.e1) (ED (BZ s.fF) (BZ s.fw))))))))
noncomputable def adh(F a:gU->ei)(x:gU):ei:= @ei.rec (λ_=>ei) .fail (λy=>a y) (λid y=>.exit id y) (λy=>.ret y) (F x)
noncomputable def Yy(t:S->U)(F a:gU->ei)(x:gU):ei:=aGs (t x.s) λb=> @Bool.rec (λ_=>ei) (a x) (F x) b
noncomputable def X6(id:Nat)(F:gU->ei)(x:gU):ei:= @ei.rec (λ_=>ei) .fail (λy=>.iH y) (λj y=> @Bool.rec (λ_=>ei) (.exit j y) (.iH y) (Nat.beq j id)) (λy=>.ret y) (F x)
noncomputable def O7(F:gU->ei)(n:Nat):gU->ei:= @Nat.rec (λ_=>gU->ei) (λ_=>.fail) (λ_ a x=> @ei.rec (λ_=>ei) .fail (λy=> @Bool.rec (λ_=>ei) .fail (VB (a y)) (VD y.s)) (λid y=>.exit id y) (λy=>.ret y) (F x)) n
def PH:Option (X×gU)->ei
 |none=>.fail
 |some (.iH,x)=>.iH x
 |some (.exit id,x)=>.exit id x
 |some (.ret,x)=>.ret x
def apQ(r:Option (X×gU)):(PH r).jJ=r:=by rcases r with _|⟨_|_|_,x⟩<;>rfl
noncomputable def adg(E:jX)(n:Nat)(c:wD):gU->ei:=
 @wD.rec (λ_=>gU->ei) (λx=>.iH x) (λid x=>.exit id x) (λx=>.ret x) (λ_ _ f g x=>adh f g x) (λt _ _ f g x=>Yy t f g x) (λid _ f x=>X6 id f x) (λ_ f x=>O7 f n x)
  (λrs x=>arA E rs x.s x.h λs h=>.iH ⟨s,h,x.kb⟩) (λrs a x=>PH (No (rs.map (qw.As E)) a x)) (λkey aB b x=>PH (PU E key aB b x)) (λ_=>.fail) c
section
variable {E:jX}
def aGH{F d:gU->ei}{e c:kB}(b:∀x r,(F x).jJ=some r->e x=some r)(f:∀x r,(d x).jJ=some r->c x=some r)(x:gU)(r:X×gU)(h:(adh F d x).jJ=some r):P8 e c x=some r:=by
 unfold adh at h;unfold P8;cases a:F x with
 |fail=>rw[a]at h;cases h
 |iH y=>rw[a]at h;rw[b x (.iH,y) (by rw[a];rfl)];exact f y r h
 |exit id y=>rw[a]at h;rw[b x (.exit id,y) (by rw[a];rfl)];exact h
 |ret y=>rw[a]at h;rw[b x (.ret,y) (by rw[a];rfl)];exact h
def aGF{t:S->U}{F c:gU->ei}{d a:kB}(f:∀x r,(F x).jJ=some r->d x=some r)(e:∀x r,(c x).jJ=some r->a x=some r)(x:gU)(r:X×gU)(h:(Yy t F c x).jJ=some r):Nb t d a x=some r:=by
 unfold Yy at h;unfold Nb;cases aj:t x.s<;>rw[aj]at h<;>first|cases h|skip
 rename_i b;cases b;exact e x r h;exact f x r h
def aGE{id:Nat}{F:gU->ei}{c:kB}(b:∀x r,(F x).jJ=some r->c x=some r)(x:gU)(r:X×gU)(h:(X6 id F x).jJ=some r):MP id c x=some r:=by
 unfold X6 at h;unfold MP;cases a:F x with
 |fail=>rw[a]at h;cases h
 |iH y=>rw[a]at h;rw[b x (.iH,y) (by rw[a];rfl)];exact h
 |exit j y=>
  rw[a]at h;rw[b x (.exit j,y) (by rw[a];rfl)];simp only at h|-;cases G:Nat.beq j id with
  |false=>rw[G]at h;exact h
  |true=>rw[G]at h;exact h
 |ret y=>rw[a]at h;rw[b x (.ret,y) (by rw[a];rfl)];exact h
def ap9{F:gU->ei}{f:kB}(e:∀x r,(F x).jJ=some r->f x=some r):∀(n:Nat) (x:gU) (r:X×gU),(O7 F n x).jJ=some r->Ee f n x=some r
 |0,x,r,h=>by cases h
 |n+1,x,r,h=>by
  have c:(@ei.rec (λ_=>ei) .fail (λy=> @Bool.rec (λ_=>ei) .fail (VB (O7 F n y)) (VD y.s)) (λid y=>.exit id y) (λy=>.ret y) (F x)).jJ=some r:=h;simp only[Ee];cases d:F x with
  |fail=>rw[d]at c;cases c
  |iH y=>
   rw[d]at c
   rw[e x (.iH,y) (by rw[d];rfl)]
   have c:(@Bool.rec (λ_=>ei) .fail (VB (O7 F n y)) (VD y.s)).jJ=some r:=c
   rcases UY (t:=VD y.s) (a:=.fail) (b:=VB (O7 F n y)) (r:=r) c with⟨_,I⟩|⟨_,I⟩
   .exact ap9 e n y r I
   .cases I
  |exit id y=>rw[d]at c;rw[e x (.exit id,y) (by rw[d];rfl)];exact c
  |ret y=>rw[d]at c;rw[e x (.ret,y) (by rw[d];rfl)];exact c
def Ex{n:Nat}:∀(c:wD) (x:gU) (r:X×gU),(adg E n c x).jJ=some r->tK E n c.Cw x=some r
 |.skip,x,r,h=>h
 |.exit _,x,r,h=>h
 |.ret,x,r,h=>h
 |.seq a b,x,r,h=>aGH (Ex a) (Ex b) x r h
 |.cond t a b,x,r,h=>aGF (Ex a) (Ex b) x r h
 |.block id a,x,r,h=>aGE (Ex a) x r h
 |.loop a,x,r,h=>ap9 (Ex a) n x r h
 |.region rs,x,r,h=>by
  have:=arB (E:=E) (F:=λq=>some (.iH,⟨q.1,q.2,x.kb⟩)) (k:=λs h=>.iH ⟨s,h,x.kb⟩) (λs h e=>e) (l:=rs) (s:=x.s) (h:=x.h) (r:=r) h;show PY E (rs.map jz.sJ) x=some r;unfold PY;cases f:oM E (rs.map jz.sJ) x.s x.h with
  |none=>rw[f]at this;simp at this
  |some q=>rw[f]at this;simpa using this
 |.FI rs g,x,r,h=>by have d:(PH (No (rs.map (qw.As E)) g x)).jJ=some r:=h;rw[apQ]at d;exact d
 |.range key aB i,x,r,h=>by have d:(PH (PU E key aB i x)).jJ=some r:=h;rw[apQ]at d;exact d
 |.fail,x,r,h=>by cases h
end
def Yp:BinOp->Option yX
 |.eql=>some .eql
 |.neq=>some .neq
 |.lss=>some .lss
 |.leq=>some .leq
 |.gtr=>some .gtr
 |.geq=>some .geq
 |_=>none
def axQ{b:BinOp}{c:yX}(h:Yp b=some c):c.op=b:=by cases b<;>simp[Yp]at h<;>subst h<;>rfl
def E6(aH:List (S->U))(d:jz)(f:(S->U)->jz):jz:=match aH with
 |[]=>d
 |x::l=>match l with
  |[]=>f x
  |_::_=>d
def Eo(aH:List (S->U))(d:jz)(f:(S->U)->(S->U)->jz):jz:=match aH with
 |[]=>d
 |x::l=>match l with
  |[]=>d
  |y::l=>match l with
   |[]=>f x y
   |_::_=>d
def ap2(aH:List (S->U))(d:jz)(f:(S->U)->(S->U)->(S->U)->jz):jz:=match aH with
 |[]=>d
 |x::l=>Eo l d (f x)
def SN(c:iA):jz:=match c.dst with
 |none=>.gen c
 |some d=>E6 c.aH (.gen c) λx=>match c.guard with
  |none=>.acl d x
  |some p=>.ZG p.1 p.2 d x
def aji(P:Program)(b:BinOp)(t:TypeId)(c:iA):jz:=match P.underlying t with
 |some d=>match d with
  |.int _=>match Yp b with
   |some m=>Eo c.aH (.gen c) λx y=>.Yo c.guard c.dst m x y
   |none=>match b with
    |.add=>Eo c.aH (.gen c) λx y=>.add c.guard c.dst x y
    |_=>.gen c
  |.string=>match b with
   |.eql=>Eo c.aH (.gen c) λx y=>.S3 c.guard c.dst false x y
   |.neq=>Eo c.aH (.gen c) λx y=>.S3 c.guard c.dst true x y
   |_=>.gen c
  |_=>.gen c
 |none=>.gen c
def ajj(P:Program)(t:TypeId)(i:Nat)(c:iA):jz:=match P.underlying t with
 |some d=>match d with
  |.struct a=>match a[i]? with
   |some f=>E6 c.aH (.gen c) λx=>.field c.guard c.dst f.offset x
   |none=>.gen c
  |_=>.gen c
 |none=>.gen c
def ajm(P:Program)(q:Call)(c:iA):jz:=match q.callee with
 |.builtin b=>match b with
  |.len=>match q.argTypes[0]? with
   |some t=>match P.underlying t with
    |some d=>match d with
     |.string=>E6 c.aH (.gen c) λx=>.abP c.guard c.dst x
     |.slice _=>E6 c.aH (.gen c) λx=>.abN c.guard c.dst x
     |_=>.gen c
    |none=>.gen c
   |none=>.gen c
  |_=>.gen c
 |_=>.gen c
def ajk(P:Program)(t:TypeId)(c:iA):jz:=match P.underlying t with
 |some d=>match d with
  |.slice e=>match P.info? e with
   |some a=>Eo c.aH (.gen c) λx y=>.abq c.guard c.dst a.size x y
   |none=>.gen c
  |_=>.gen c
 |none=>.gen c
def ajl(P:Program)(t:TypeId)(c:iA):jz:=match P.underlying t with
 |some d=>match P.info? t with
  |some i=>bif vz d then .gen c else E6 c.aH (.gen c) λx=>.BR c.guard c.dst i.size x
  |none=>.gen c
 |none=>.gen c
def YJ(P:Program)(op:Op)(c:iA):jz:=match op with
 |.move _=>SN c
 |.assign _=>SN c
 |.pick _ _ _=>ap2 c.aH (.gen c) λa b e=>.pick c.guard c.dst a b e
 |.binOp b t _ _ _=>aji P b t c
 |.index _ _ _=>Eo c.aH (.gen c) λx y=>.index c.guard c.dst x y
 |.fieldAddr t _ i=>ajj P t i c
 |.call q=>ajm P q c
 |.nilCheck _=>E6 c.aH (.gen c) λx=>.acq c.guard c.dst x
 |.indexAddr t _ _=>ajk P t c
 |.load t _=>ajl P t c
 |_=>.gen c
def Kj{c:iA}{f:(S->U)->jz}(h:∀x,c.aH=[x]->(f x).sJ=c):(E6 c.aH (.gen c) f).sJ=c:=by
 cases a:c.aH with
 |nil=>rfl
 |cons x l=>cases l with
  |nil=>exact h x a
  |cons _ _=>rfl
def Kk{c:iA}{f:(S->U)->(S->U)->jz}(h:∀x y,c.aH=[x,y]->(f x y).sJ=c):(Eo c.aH (.gen c) f).sJ=c:=by
 cases a:c.aH with
 |nil=>rfl
 |cons x l=>cases l with
  |nil=>rfl
  |cons y l=>cases l with
   |nil=>exact h x y a
   |cons _ _=>rfl
def aGA{c:iA}{f:(S->U)->(S->U)->(S->U)->jz}(h:∀x y ai,c.aH=[x,y,ai]->(f x y ai).sJ=c):(ap2 c.aH (.gen c) f).sJ=c:=by
 cases a:c.aH with
 |nil=>rfl
 |cons x l=>cases l with
  |nil=>rfl
  |cons y l=>cases l with
   |nil=>rfl
   |cons ai l=>cases l with
    |nil=>exact h x y ai a
    |cons _ _=>rfl
def ut{c:iA}{ed:Option ((S->U)×Bool)}{d:Option Nat}{aH:List (S->U)}{k:x1}(H:c.guard=ed)(I:c.dst=d)(b:c.aH=aH)(a:c.k=k):(⟨ed,d,aH,k⟩:iA)=c:=by subst H I b a;rfl
def ayp{c:iA}(h:c.k=.pS (.pure BT)):(SN c).sJ=c:=by
 unfold SN;cases hd:c.dst with
 |none=>rfl
 |some d=>
  refine Kj λx a=>?_;cases ar:c.guard with
  |none=>exact ut ar hd a h
  |some p=>exact ut ar hd a h
def ayG{P:Program}{aB:Nat}{ops:Array Oper}{o:Oper}{c:iA}(h:Bh P aB ops o=some c):rz P o.op=some c.k:=by
 unfold Bh at h;cases hd:Nr aB o.dst with
 |false=>rw[hd]at h;simp at h
 |true=>
  rw[hd]at h;simp only[eZ]at h;split at h;rename_i ed aH k H I a;cases h;exact a;cases h
def ayq{P:Program}{op:Op}{c:iA}(h:rz P op=some c.k):(YJ P op c).sJ=c:=by
 unfold YJ;split;exact aom;exact aom;simp only[rz,rP,pB,jL,cx]at h;exact aGA λx y ai a=>ut rfl rfl a h.symm
 .rename_i b t _ _ _;unfold aji;cases hu:P.underlying t with
  |none=>rfl
  |some d=>
   simp only;split;simp only[rz,rP,pB,Nh,hu,jL,cx]at h;split;rename_i m k;exact Kk λx y a=>ut rfl rfl a (by rw[axQ k];exact h.symm);split;exact Kk λx y a=>ut rfl rfl a h.symm;rfl;simp only[rz,rP,pB,Nh,hu,jL,cx]at h;split;exact Kk λx y a=>ut rfl rfl a h.symm;exact Kk λx y a=>ut rfl rfl a h.symm;rfl;rfl
 .rename_i t _ _;simp only[rz,rP,pB,jL]at h;cases hu:P.underlying t with
  |none=>rw[hu]at h;simp at h
  |some u=>rw[hu]at h;cases u<;>simp only[cx,reduceCtorEq]at h;exact Kk λx y a=>ut rfl rfl a h.symm
 .rename_i t _ i;unfold ajj;cases hu:P.underlying t with
  |none=>rfl
  |some d=>
   simp only;split
   .rename_i n;cases l:n[i]? with
    |none=>rfl
    |some f=>
     simp only[rz,rP,pB,hu,l,jL]at h;cases hi:P.info? f.type with
     |none=>rw[hi]at h;simp at h
     |some o=>
      rw[hi]at h;simp only at h;by_cases j:o.size≠0;rw[ci j]at h;simp only[cx]at h;exact Kj λx a=>ut rfl rfl a h.symm;rw[bo j]at h;simp at h
   rfl
 .rename_i q;unfold ajm;cases g:q.callee with
  |builtin b=>
   simp only;split
   .cases aj:q.argTypes[0]? with
    |none=>rfl
    |some t=>
     simp only;cases hu:P.underlying t with
     |none=>rfl
     |some d=>
      simp only;split;simp only[rz,rP,pB,g,jL,Ni,aj,Nj,hu,cx]at h;exact Kj λx a=>ut rfl rfl a h.symm;simp only[rz,rP,pB,g,jL,Ni,aj,Nj,hu,cx]at h;exact Kj λx a=>ut rfl rfl a h.symm;rfl
   .rfl
  |_=>rfl
 simp only[rz,rP,pB,jL,cx]at h;exact Kj λx a=>ut rfl rfl a h.symm
 .rename_i t _ _;unfold ajk;cases hu:P.underlying t with
  |none=>rfl
  |some d=>
   simp only;split
   .rename_i e;cases hi:P.info? e with
    |none=>rfl
    |some r=>simp only[rz,rP,pB,hu,hi,jL,cx]at h;exact Kk λx y a=>ut rfl rfl a h.symm
   rfl
 .rename_i t _;unfold ajl;cases hu:P.underlying t with
  |none=>rfl
  |some d=>
   cases hi:P.info? t with
   |none=>rfl
   |some i=>
    simp only[rz,rP,pB,hu,hi,jL,cx]at h;simp only;cases aL:vz d with
    |true=>rfl
    |false=>exact Kj λx a=>ut rfl rfl a (by rw[<-aL];exact h.symm)
 rfl
def I_(P:Program)(aB:Nat)(ops:Array Oper):List Oper->Option (List jz)
 |[]=>some []
 |o::l=>match Bh P aB ops o,I_ P aB ops l with
  |some x,some r=>some (YJ P o.op x::r)
  |_,_=>none
def ajt{P:Program}{aB:Nat}{ops:Array Oper}:∀(l:List Oper),uu P aB ops l=(I_ P aB ops l).map (List.map jz.sJ)
 |[]=>rfl
 |o::l=>by
  simp only[uu,I_,ajt l];cases h:Bh P aB ops o with
  |none=>rfl
  |some x=>
   cases I_ P aB ops l with
   |none=>rfl
   |some r=>simp[ayq (ayG h)]
def n1(P:Program)(aB:Nat):Option Nat->Code->Option wD
 |_,.skip=>some .skip
 |_,.label _=>some .skip
 |_,.exit id=>some (.exit id)
 |_,.ret=>some .ret
 |k,.seq a b=>match n1 P aB k a,n1 P aB (k.map (· +(og a).length)) b with
  |some x,some y=>some (.seq x y)
  |_,_=>none
 |k,.cond t a b=>match sE aB P.globals.size t,n1 P aB k a,n1 P aB (k.map (· +(og a).length)) b with
  |some t,some x,some y=>some (.cond t x y)
  |_,_,_=>none
 |k,.block id a=>match n1 P aB k a with|some x=>some (.block id x)|none=>none
 |k,.loop a=>match n1 P aB k a with|some x=>some (.loop x)|none=>none
 |_,.region _ ops false=>match I_ P aB ops ops.toList with
  |some cs=>some (.region cs)
  |none=>some .fail
 |_,.region _ ops true=>match uu P aB ops ops.toList with
  |some cs=>some (.FI (vD ops ops.toList cs (G7 ops.toList [])) (cs.filter λc=>am8 c.k).length)
  |none=>some .fail
 |some key,.rangeFunc f _ _ _=>match sE aB P.globals.size f with
  |some d=>some (.range key aB d)
  |none=>none
 |_,_=>some .fail
def asd(P:Program)(aB:Nat)(ops:Array Oper):Bool:=match uu P aB ops ops.toList with
 |some cs=>B1 aB ops.toList ((vD ops ops.toList cs (G7 ops.toList [])).map (qw.As FV))&&Nat.beq (vD ops ops.toList cs (G7 ops.toList [])).length cs.length
 |none=>true
def wn(P:Program)(aB:Nat):Code->Bool
 |.seq a b=>wn P aB a&&wn P aB b
 |.cond _ a b=>wn P aB a&&wn P aB b
 |.block _ a=>wn P aB a
 |.loop a=>wn P aB a
 |.region _ ops true=>asd P aB ops
 |_=>true
def FF{P:Program}{aB:Nat}:∀(c:Code) (k:Option Nat),wn P aB c=true->ka P aB k c=(n1 P aB k c).map wD.Cw
 |.skip,_,_=>rfl
 |.label _,_,_=>rfl
 |.exit _,_,_=>rfl
 |.ret,_,_=>rfl
 |.seq a b,k,h=>by simp only[wn,dW]at h;simp only[ka,n1,FF a _ h.1,FF b _ h.2];cases n1 P aB k a<;>cases n1 P aB (k.map (· +(og a).length)) b<;>rfl
 |.cond t a b,k,h=>by simp only[wn,dW]at h;simp only[ka,n1,FF a _ h.1,FF b _ h.2];cases sE aB P.globals.size t<;>cases n1 P aB k a<;>cases n1 P aB (k.map (· +(og a).length)) b<;>rfl
 |.block _ a,k,h=>by simp only[wn]at h;simp only[ka,n1,FF a _ h];cases n1 P aB k a<;>rfl
 |.loop a,k,h=>by simp only[wn]at h;simp only[ka,n1,FF a _ h];cases n1 P aB k a<;>rfl
 |.region _ ops false,k,_=>by simp only[ka,n1,ajt];cases I_ P aB ops ops.toList<;>rfl
 |.region _ ops true,k,h=>by
  simp only[wn,asd]at h;simp only[ka,n1,SP];cases hd:uu P aB ops ops.toList with
  |none=>rfl
  |some cs=>rw[hd]at h;simp only at h;simp only[h,eZ];rfl
 |.rangeFunc f _ _ _,some key,_=>by simp only[ka,n1];cases sE aB P.globals.size f<;>rfl
 |.rangeFunc f _ _ _,none,_=>by simp only[ka,n1];rfl
 |.scope _,k,_=>by cases k<;>rfl
 |.goto _,k,_=>by cases k<;>rfl
 |.refuse _,k,_=>by cases k<;>rfl
structure Mj where
 aB:Nat
 rs:List s2
 c:wD
def ajo(P:Program)(f:FuncId)(fn:Func):Option Mj:=match fn.body with
 |some body=>bif (fn.name != "runtime.NumGoroutine")&&Nat.ble fn.ntmps 256&&Nat.ble (og body).length 64 then
   match Bi P fn.ntmps fn.results.toList,n1 P fn.ntmps (some (wa f)) body with
   |some rs,some c=>some ⟨fn.ntmps,rs,c⟩
   |_,_=>none
  else none
 |none=>none
def I9(P:Program)(gh:Nat->Option Func)(f:FuncId):Option Mj:=match gh f with
 |some fn=>ajo P f fn
 |none=>none
def Vu(P:Program)(fn:Func):Bool:=match fn.body with
 |some body=>wn P fn.ntmps body
 |none=>true
def Mz(P:Program)(gh:Nat->Option Func):Prop:=∀f fn,gh f=some fn->P.funcs[f]? =some fn/\Vu P fn=true
def ajp{P:Program}{gh:Nat->Option Func}(aj:Mz P gh){f:FuncId}{d:Mj}(h:I9 P gh f=some d):I8 P f=some ⟨d.aB,d.rs,d.c.Cw⟩:=by
 unfold I9 at h;cases b:gh f with
 |none=>rw[b]at h;cases h
 |some fn=>
  rw[b]at h;simp only at h;let⟨H,a⟩:=aj f fn b;unfold ajo at h;unfold Vu at a;unfold I8;rw[H];simp only;cases G:fn.body with
  |none=>rw[G]at h;cases h
  |some body=>
   rw[G]at h a;simp only at h a|-;cases e:((fn.name != "runtime.NumGoroutine")&&Nat.ble fn.ntmps 256&&Nat.ble (og body).length 64)with
   |false=>rw[e]at h;simp at h
   |true=>
    rw[e]at h;simp only[eZ]at h|-;rw[FF body _ a];cases i:Bi P fn.ntmps fn.results.toList with
    |none=>rw[i]at h;simp at h
    |some rs=>
     rw[i]at h;cases g:n1 P fn.ntmps (some (wa f)) body with
     |none=>rw[g]at h;simp at h
     |some c=>rw[g]at h;simp only[cx]at h;subst h;rfl
noncomputable def S7(aB:Nat)(rs:List s2)(F:gU->ei)(args:List U)(h:ay):Option (U×ay):=
 @Bool.rec (λ_=>Option (U×ay)) none (@ei.rec (λ_=>Option (U×ay)) none (λx=>Dz rs x) (λ_ _=>none) (λx=>Dz rs x) (F ⟨xq args 0 bY,h,[]⟩)) (Nat.ble args.length aB)
def aj_{aB:Nat}{rs:List s2}{F:gU->ei}{c:kB}(b:∀x r,(F x).jJ=some r->c x=some r){args:List U}{h:ay}{r:U×ay}(e:S7 aB rs F args h=some r):DB aB rs c args h=some r:=by
 unfold S7 at e;unfold DB;cases G:Nat.ble args aB with
 |false=>rw[G]at e;cases e
 |true=>
  rw[G]at e;simp only[eZ];cases a:F ⟨xq args 0 bY,h,[]⟩with
  |fail=>rw[a]at e;cases e
  |iH y=>rw[a]at e;rw[b _ (.iH,y) (by rw[a];rfl)];exact e
  |exit id y=>rw[a]at e;cases e
  |ret y=>rw[a]at e;rw[b _ (.ret,y) (by rw[a];rfl)];exact e
noncomputable def i0(P:Program)(ext:CW)(gh:Nat->Option Func)(n:Nat):jX:=
 @Nat.rec (λ_=>jX) FV (λn E=>{
  call:=λf args h=> @Option.rec _ (λ_=>Option (U×ay)) (@Option.rec Mj (λ_=>Option (U×ay)) none (λd=>S7 d.aB d.rs (adg E n d.c) args h) (I9 P gh f)) (λF=>F args h) (ext f)
  yield:=VL (Ux P E n)}) n
section
variable {P:Program} {ρ:cj}
def nO.mono{f:FuncId}{F e:List U->ay->Option (U×ay)}(h:nO P ρ f F)(ar:∀args h r,e args h=some r->F args h=some r):nO P ρ f e:=
 λσ args ag v g cs w a b c d=>h σ args ag v g cs w a b c (ar _ _ _ d)
def ajP(ext:CW)(gh:Nat->Option Func)(n:Nat):i0 P ext gh (n+1)={
 call:=λf args h=> @Option.rec _ (λ_=>Option (U×ay)) (@Option.rec Mj (λ_=>Option (U×ay)) none (λd=>S7 d.aB d.rs (adg (i0 P ext gh n) n d.c) args h) (I9 P gh f)) (λF=>F args h) (ext f)
 yield:=VL (Ux P (i0 P ext gh n) n)}:=rfl
def Y3(a:P.follows .mixedOrders=true)(c:ρ.ql=nH P){ext:CW}{gh:Nat->Option Func}(aj:Mz P gh)(i:∀f F,ext f=some F->nO P ρ f F):∀n,vk P ρ (i0 P ext gh n)
 |0=>⟨λf=>(by intro σ args h v g cs w _ _ _ J;exact absurd J (by rintro⟨⟩)),(by intro σ b args h v g cs w p _ _ _ _ J;exact absurd J (by rintro⟨⟩))⟩
 |n+1=>by
  have j:=Y3 a c aj i n;rw[ajP];refine⟨λf=>?_,aMq (aEq a c j n)⟩;simp only;cases aP:ext f with
  |some F=>exact i f F aP
  |none=>
   cases k:I9 P gh f with
   |some d=>exact(ayz a c j (ajp aj k) n).mono λargs h r e=>aj_ (Ex d.c) e
   |none=>intro σ args h v g cs w _ _ _ J;cases J
def Nz(g:P.follows .mixedOrders=true)(i:ρ.ql=nH P){ext:CW}{gh:Nat->Option Func}(aj:Mz P gh)(j:∀f F,ext f=some F->nO P ρ f F){f:FuncId}(l:ext f=none){n:Nat}{σ:b9}{args:List U}{h:ay}{v:U}{b:ay}{cs:List Φ}{w:Γ}(ar:kM P σ)(m:b5 ρ σ args=some cs)(k:c_ ρ σ h w) (J:(i0 P ext gh n).call f args h=some (v,b)):Calls P f cs.toArray w λe w'=>∃c,e=.returned c/\ro ρ σ h w v b c w':=by
 cases n with
 |zero=>cases J
 |succ n=>
  rw[ajP]at J;simp only[l]at J;cases a:I9 P gh f with
  |none=>rw[a]at J;cases J
  |some d=>rw[a]at J;exact ayy g i (Y3 g i aj j n) (ajp aj a) n ar m k (aj_ (Ex d.c) J)
end
end Go.cE
namespace Go.cE
inductive k6 where
 |e
 |n (k:Nat) (fn:Func) (l r:k6)
noncomputable def k6.find(t:k6)(f:Nat):Option Func:= @k6.rec (λ_=>Option Func) none (λk fn _ _ a b=> @Bool.rec (λ_=>Option Func) (@Bool.rec (λ_=>Option Func) b a (Nat.blt f k)) (some fn) (Nat.beq f k)) t
def k6.De(P:Program):k6->Prop
 |.e=>True
 |.n k fn l r=>(P.funcs[k]? =some fn/\Vu P fn=true)/\l.De P/\r.De P
def k6.rB{P:Program}:∀{t:k6},t.De P->Mz P t.find
 |.e,_,f,fn,h=>by cases h
 |.n k b l r,⟨H,I,c⟩,f,fn,h=>by
  have h: @Bool.rec (λ_=>Option Func) (@Bool.rec (λ_=>Option Func) (r.find f) (l.find f) (Nat.blt f k)) (some b) (Nat.beq f k)=some fn:=h;cases G:Nat.beq f k with
  |true=>
   rw[G]at h
   have e:=gK G
   subst e
   cases h
   exact H
  |false=>
   rw[G]at h
   cases a:Nat.blt f k with
   |true=>rw[a]at h;exact k6.rB I f fn h
   |false=>rw[a]at h;exact k6.rB c f fn h
end Go.cE
namespace Go.cE
def Jf:List (U×U×Nat)->List (U×U×Nat)->Bool
 |[],[]=>true
 |a::l,b::m=>U.beq a.1 b.1&&U.beq a.2.1 b.2.1&&Nat.beq a.2.2 b.2.2&&Jf l m
 |_,_=>false
def ajK:∀{a b:List (U×U×Nat)},Jf a b=true->a=b
 |[],[],_=>rfl
 |(x,y,ai)::l,(f,g,e)::m,h=>by simp only[Jf,dW]at h;let⟨⟨⟨H,I⟩,d⟩,c⟩:=h;rw[U.beq_eq H,U.beq_eq I,gK d,ajK c]
 |[],_::_,h=>by simp[Jf]at h
 |_::_,[],h=>by simp[Jf]at h
def eK.same:eK->eK->Bool
 |.cells e vs t w,.cells b a g w'=>Nat.beq e b&&U.p_ vs a&&(t==g)&&(w==w')
 |.map d c,.map h f=>Jf d h&&Nat.beq c f
 |.aK e vs,.aK b a=>Nat.beq e b&&U.p_ vs a
 |_,_=>false
def eK.aIJ{a b:eK}(h:a.same b=true):a=b:=by cases a<;>cases b<;>simp only[eK.same,dW,re]at h;let⟨⟨⟨H,I⟩,d⟩,c⟩:=h;rw[gK H,U.un I,eq_of_beq d,eq_of_beq c];let⟨H,I⟩:=h;rw[ajK H,gK I];let⟨H,I⟩:=h;rw[gK H,U.un I]
abbrev my:=List (Nat×eK)
def st(h:ay):my->Bool
 |[]=>true
 |p::l=>(match h.cW p.1 with|some y=>y.same p.2|none=>false)&&st h l
def N'{h:ay}:∀{l:my},st h l=true->∀{b:Nat} {x:eK},(b,x)∈l->h.cW b=some x
 |[],_,b,x,a=>by cases a
 |p::l,H,b,x,a=>by
  simp only[st,dW]at H;rcases gJ.1 a with e|a
  .cases e;cases ar:h.cW b with
   |none=>rw[ar]at H;simp at H
   |some y=>rw[ar]at H;rw[eK.aIJ H.1]
  .exact N' H.2 a
def pR(l:my):Bool:=l.all λp=>Nat.blt p.1 eG
def adu{l:my}(h:pR l=true){p:Nat×eK}(ag:p∈l):p.1<eG:=by simpa using iq.1 h p ag
def hA(h:ay):my->ay
 |[]=>h
 |p::l=>hA (h.db p.1 (some p.2)) l
def FJ(h:ay):my->ay
 |[]=>h
 |p::l=>FJ (h.db p.1 none) l
def U5:∀{l:my} {h:ay} {b:Nat} {x:eK},(∀p∈l,p.1<eG)->(hA h l).cW b=some x->(b,x)∈l∨h.cW b=some x
 |[],h,b,x,_,e=>.inr e
 |p::l,h,b,x,a,e=>by(rcases U5 (λq c=>a q (jw _ c)) e with H|H);{exact .inl (jw _ H)};{rw[ay.vJ _ _ _ _ (a p (ri ..))]at H;by_cases ak:b=p.1;{rw[ci ak]at H;cases H;subst ak;exact .inl (ri ..)};{rw[bo ak]at H;exact .inr H}}
def ajx:∀{l:my} {h:ay} {b:Nat} {x:eK},(∀p∈l,p.1<eG)->(FJ h l).cW b=some x->h.cW b=some x/\∀p∈l,p.1≠b
 |[],h,b,x,_,e=>⟨e,λp ag=>by cases ag⟩
 |p::l,h,b,x,c,e=>by let⟨H,I⟩:=ajx (λq a=>c q (jw _ a)) e;rw[ay.vJ _ _ _ _ (c p (ri ..))]at H;by_cases ak:b=p.1;{rw[ci ak]at H;cases H};{rw[bo ak]at H;refine⟨H,λq a=>?_⟩;(rcases gJ.1 a with rfl|a);{exact it ak};{exact I q a}}
structure qE where
 args:List U
 pre:my
 nx:Nat
 v:U
 post:my
 GX:Nat
def qE.heap(m:qE):ay:=hA ⟨.e,m.nx⟩ m.pre
def Pp(m:qE)(args:List U)(h:ay):Option (U×ay):=
 bif U.p_ args m.args&&Nat.beq h.nx m.nx&&st h m.pre then some (m.v,⟨(hA (FJ h m.pre) m.post).t,m.GX⟩)else none
def xj(m:qE)(r:Option (U×ay)):Bool:=match r with
 |some (v,h)=>U.beq v m.v&&Nat.ble h.nx m.GX&&st h m.post&&pR m.pre&&pR m.post
 |none=>false
def G8:∀{l:my} {h:ay},(hA h l).nx=h.nx
 |[],_=>rfl
 |p::l,h=>by rw[hA,G8];rfl
def kA.some{ρ:cj}{σ:b9}{p:nT}{o:Option Obj}{x:eK}(h:kA ρ σ p o x):∃y,o=some y:=by
 cases x with
 |cells=>obtain⟨arr,bd,rfl,_⟩:=h;exact⟨_,rfl⟩
 |map=>obtain⟨_,b,rfl,_⟩:=h;exact⟨_,rfl⟩
 |mapIter=>obtain⟨_,q,_,rfl⟩:=h;exact⟨_,rfl⟩
 |loop=>obtain⟨_,a,q,l,_,_,_,rfl⟩:=h;exact⟨_,rfl⟩
 |deferred=>obtain⟨_,rfl⟩:=h;exact⟨_,rfl⟩
 |aK=>obtain⟨cs,_,rfl,_⟩:=h;exact⟨_,rfl⟩
variable{w:Γ}
def ui.mono{P:Program}{f:Frame}{R a:Φ->Γ->Prop}(h:ui P f w R)(b:∀v w,R v w->a v w):ui P f w a:=
 λc cs=>let ⟨v,w',q,s⟩:=h c cs;⟨v,w',b _ _ q,s⟩
def ro.frame{ρ:cj}{σ:b9}{h ag H:ay}{w':Γ}{v:U}{c:Φ}{pre post:my}{GX:Nat}(B:c_ ρ σ h w)(R:∀b x,ag.cW b=some x->(b,x)∈pre)(P:∀b x,(b,x)∈pre->h.cW b=some x)(S:ag.nx=h.nx) (T:∀p∈pre,p.1<eG)(X:∀p∈post,p.1<eG)(s:∀b x,(b,x)∈post->H.cW b=some x)(N:H.nx<=GX) (aL:ro ρ σ ag w v H c w'):ro ρ σ h w v ⟨(hA (FJ h pre) post).t,GX⟩ c w':=by
 let⟨C,J,M,f⟩:=aL;have E:∀b x,(⟨(hA (FJ h pre) post).t,GX⟩:ay).cW b=some x->(b,x)∈post∨(h.cW b=some x/\∀p∈pre,p.1≠b):=λb x G=>by rcases U5 X (h:=FJ h pre) (b:=b) (x:=x) G with I|I;exact .inl I;exact .inr (ajx T I)
 have out:∀b x p,h.cW b=some x->(∀q∈pre,q.1≠b)->σ b=some p->¬lV σ ag p.ba:=λb x p G j d ⟨z,L,dF,t,o,K⟩=>by have Q:=R z L t;have A:b≠z:=λe=>j _ Q (by simp[e]);exact B.inj b z x L p dF G (P z L Q) d o A K.symm
 have lt:∀b x p,h.cW b=some x->σ b=some p->p.ba<w/\kA ρ σ p w.heap[p.ba]? x:=λb x p G d=>by let⟨q,j,D⟩:=B.ba b x G;obtain rfl:p=q:=gm (d.symm.trans j);let⟨y,V⟩:=D.some;exact⟨(hl.1 V).1,D⟩
 have sub:∀r,lV σ ag r->lV σ h r:=λr ⟨b,x,p,t,o,K⟩=>⟨b,x,p,P b x (R b x t),o,K⟩;have old:∀b x,h.cW b=some x->∃p,σ b=some p/\C b=some p:=λb x G=>by let⟨p,O,_⟩:=B.ba b x G;exact⟨p,O,f.ext b p O⟩
 refine⟨C,J,⟨λb x G=>?_,λb a x g p i G fa d n A=>?_,λb G=>M.kn b (c6 N G)⟩,⟨f.ext,λb I k=>by rw[<-S];exact f.d_ b I k,by rw[<-S];exact c6 f.nx N,f.size,λr Y Z=>f.kept r Y λF=>Z (sub r F),λr F=>?_,f.os,f.output,f.tape⟩⟩;rcases E b x G with I|⟨I,k⟩;exact M.ba b x (s b x I);let⟨p,d,n⟩:=old b x I;let⟨au,D⟩:=lt b x p I d;refine⟨p,n,?_⟩;rw[f.kept p.ba au (out b x p I k d)];exact D.ext f.ext
 .
  have mixed:∀b a x g p i,(b,x)∈post->h.cW a=some g->(∀q∈pre,q.1≠a)->C b=some p->C a=some i->p.ba≠i.ba:=λb a x g p i I k m d n e=>by
   let⟨q,j,u⟩:=old a g k;obtain rfl:i=q:=gm (n.symm.trans u);let⟨au,_⟩:=lt a g i k j;rcases f.oe p.ba ⟨b,x,p,s b x I,d,rfl⟩with l|l
   rw[e]at l;omega;rw[e]at l;exact out a g i k m j l
  rcases E b x G with I|⟨I,k⟩<;>rcases E a g fa with m|⟨m,l⟩
  exact M.inj b a x g p i (s b x I) (s a g m) d n A;exact mixed b a x g p i I m l d n;exact it (mixed a b g x i p m I k n d);let⟨q,j,u⟩:=old b x I;let⟨cv,n9,W⟩:=old a g m;obtain rfl:p=q:=gm (d.symm.trans u);obtain rfl:i=cv:=gm (n.symm.trans W);exact B.inj b a x g p i I m j n9 A
 .obtain⟨b,x,p,t,o,rfl⟩:=F;rcases E b x t with I|⟨I,k⟩
  .rcases f.oe p.ba ⟨b,x,p,s b x I,o,rfl⟩with l|l
   exact .inl l;exact .inr (sub _ l)
  let⟨q,j,u⟩:=old b x I;obtain rfl:p=q:=gm (o.symm.trans u);exact .inr ⟨b,x,p,I,j,rfl⟩
def z_{P:Program}{ρ:cj}{f:FuncId}{call:List U->ay->Option (U×ay)}(y:nO P ρ f call){m:qE}(a:xj m (call m.args m.heap)=true):nO P ρ f (Pp m):=by
 intro σ args h v K cs w ar E d J;unfold Pp at J;cases G:(U.p_ args m.args&&Nat.beq h.nx m.nx&&st h m.pre)with
 |false=>rw[G]at J;simp at J
 |true=>
  rw[G]at J;simp only[eZ,cx,iX]at J;obtain⟨rfl,rfl⟩:=J;simp only[dW]at G;let⟨⟨H,I⟩,B⟩:=G;have H:=U.un H;subst H;have I:=gK I;unfold xj at a;cases k:call m.args m.heap with
  |none=>rw[k]at a;simp at a
  |some r=>
   let⟨L,q⟩:=r;rw[k]at a;simp only[dW]at a;let⟨⟨⟨⟨bN,dx⟩,gc⟩,F⟩,u⟩:=a;have bN:=U.beq_eq bN;subst bN;have o:=λp ag=>adu F (p:=p) ag;have A:=λp ag=>adu u (p:=p) ag;have i:∀b x,m.heap.cW b=some x->(b,x)∈m.pre:=λb x G=>by
    rcases U5 o G with e|e;exact e;simp[ay.cW,T.cW]at e
   have g:∀b x,(b,x)∈m.pre->h.cW b=some x:=λb x G=>N' B G;have t:m.heap.nx=h.nx:=by unfold qE.heap;rw[G8];exact I.symm
   have z:c_ ρ σ m.heap w:=⟨λb x G=>d.ba b x (g b x (i b x G)),λb l x n p C G D=>d.inj b l x n p C (g b x (i b x G)) (g l n (i l n D)),λb G=>d.kn b (by rw[<-t];exact G)⟩;have s:∀c w',ro ρ σ m.heap w m.v q c w'->ro ρ σ h w m.v ⟨(hA (FJ h m.pre) m.post).t,m.GX⟩ c w':=λc w' aL=>ro.frame d i g t o A (λb x G=>N' gc G) (hZ dx) aL;rcases y σ m.args m.heap m.v q cs w ar E z k with⟨c,w',ak,j⟩|⟨ak,j⟩
   exact .inl ⟨c,w',ak,s c w' j⟩;exact .inr ⟨ak,j.mono s⟩
def GS:List qE->List U->ay->Option (U×ay)
 |[],_,_=>none
 |m::l,args,h=>match Pp m args h with
  |some r=>some r
  |none=>GS l args h
def Pq{P:Program}{ρ:cj}{f:FuncId}:∀{l:List qE},(∀m∈l,nO P ρ f (Pp m))->nO P ρ f (GS l)
 |[],_=>by intro σ args h v c cs w _ _ _ J;cases J
 |m::l,b=>by
  intro σ args h v c cs w ar e d J;simp only[GS]at J;cases a:Pp m args h with
  |some r=>rw[a]at J;cases J;exact b m (ri ..) σ args h _ _ cs w ar e d a
  |none=>rw[a]at J;exact Pq (λq g=>b q (jw _ g)) σ args h v c cs w ar e d J
end Go.cE
namespace Go.cE
open Go.Proofs.Tryz Go.RowKit
section
variable {P:Program} {ρ:cj}
variable{w:Γ}
def c_.Uy{σ:b9}{h:ay}(r:c_ ρ σ h w){b:Nat}{x:eK}{p:nT}(G:h.cW b=some x)(ag:σ b=some p):p.ba<w.heap.size:=by let⟨q,c,d⟩:=r.ba b x G;obtain rfl:p=q:=gm (ag.symm.trans c);let⟨y,a⟩:=d.some;exact(hl.1 a).1
variable{w':Γ}
def c_.K{σ:b9}{h:ay}(r:c_ ρ σ h w)(G:β w w'):c_ ρ σ h w':=
 ⟨λb x a=>by
  let⟨p,ag,c⟩:=r.ba b x a
  exact⟨p,ag,by rw[G.block p.ba (r.Uy a ag)];exact c⟩,r.inj,r.kn⟩
def jY.K{σ:b9}{h:ay}(G:β w w'):jY σ h w σ h w':=
 ⟨.refl _,λ_ a b=>(b a).elim,aY _,G.size,λr c _=>G.block r c,λ_ d=>.inr d,G.os,G.output,G.tape⟩
variable{f:FuncId}{cs:Ω}
def ui.hs{R:Φ->Γ->Prop}(h:Calls P f cs w λe w'=>∃v,e=.returned v/\R v w'):ui P (Frame.enter P f cs .normal) w R:=ui.aF0 h
def ay3{fn:Func}(b:P.funcs[f]? =some fn)(a:fn.name≠ "runtime.NumGoroutine")(G:fn.body.isSome=true):(callFunc f cs).run P w=.ok (.enter f cs) w:=by let⟨body,G⟩:=atG.1 G;simp[callFunc,b,a,G]
end
end Go.cE
namespace Go.cE
open Go.RowKit
section
variable {P:Program}
def eK.Uk:eK->Bool
 |.aK _ _=>true
 |_=>false
def Dp(l:my):Bool:=l.all λp=>p.2.Uk
def Af{l:my}{nx:Nat}(a:pR l=true){b:Nat}{x:eK}(h:(hA ⟨.e,nx⟩ l).cW b=some x):(b,x)∈l:=by rcases U5 (λp ag=>adu a ag) h with h|h;exact h;simp[ay.cW,T.cW]at h
variable{ρ:cj}{w:Γ}
def aIp{σ j:b9}{l:my}{nx:Nat}{d:ay}{w':Γ}(n:pR l=true)(r:Dp l=true)(aL:st d l=true) (s:c_ ρ σ (hA ⟨.e,nx⟩ l) w)(y:c_ ρ j d w')(a:jY σ (hA ⟨.e,nx⟩ l) w j d w'):β w w':=by
 refine⟨a.os,a.tape,a.output,a.size,λk m=>?_⟩;by_cases h:lV σ (hA ⟨.e,nx⟩ l) k
 .obtain⟨b,x,p,f,i,rfl⟩:=h;have g:=Af n f;have c:x.Uk=true:=iq.1 r _ g;cases x with
  |aK e vs=>let⟨q,o,cs,_,I,_⟩:=s.ba b _ f;obtain rfl:p=q:=gm (i.symm.trans o);let⟨t,u,A,_,z,_⟩:=y.ba b _ (N' aL g);obtain rfl:p=t:=gm ((a.ext b p i).symm.trans u);rw[I,z]
  |cells=>cases c
  |map=>cases c
  |mapIter=>cases c
  |loop=>cases c
  |deferred=>cases c
 exact a.kept k m h
structure avu (ρ:cj) (σ:b9) (w:Γ) (v:U) (aX:ay) (c:Φ) (cH:b9) (w':Γ):Prop where
 v:aT ρ cH v=some c
 h:c_ ρ cH aX w'
 ext:mV σ cH
 b:Below w.heap.size w w'
def Al(o:P.follows .mixedOrders=true)(q:ρ.ql=nH P){ext:CW}{gh:Nat->Option Func}(aj:Mz P gh)(k:∀f F,ext f=some F->nO P ρ f F){f:FuncId}(p:ext f=none){n:Nat}{σ:b9}{args:List U}{l:my}{nx:Nat}{v:U}{a:ay}{cs:List Φ}(ar:kM P σ)(r:b5 ρ σ args=some cs)(j:pR l=true)(m:Dp l=true)
  (g:c_ ρ σ (hA ⟨.e,nx⟩ l) w)(J:(i0 P ext gh n).call f args (hA ⟨.e,nx⟩ l)=some (v,a))(aL:st a l=true):
  Calls P f cs.toArray w λe w'=>∃c b,e=.returned c/\avu ρ σ w v a c b w':=
 (Nz o q aj k p ar r g J).mono λe w' ⟨c,aP,b,i,h,d⟩=>⟨c,b,aP,i,h,d.ext,aIp j m aL g h d⟩
mutual
def I3{ρ ρ':cj}(h:ρ.val=ρ'.val)(σ:b9):∀v:U,aT ρ σ v=aT ρ' σ v
 |.int .. =>by simp[aT]
 |.bool _=>by simp[aT]
 |.str _=>by simp[aT]
 |.ji .. =>by simp[aT]
 |.rU=>by simp[aT]
 |.slice .. =>by simp[aT]
 |.dM=>by simp[aT]
 |.map _=>by simp[aT]
 |.Ek=>by simp[aT]
 |.fn f a c=>by simp[aT,I2 h σ a,I2 h σ c]
 |.xF _=>by simp[aT]
 |.z'=>by simp[aT]
 |.iface t v=>by simp[aT,I3 h σ v]
 |.GV=>by simp[aT]
 |.agg l=>by simp[aT,I2 h σ l]
 |.tup l=>by simp[aT,I2 h σ l]
 |.sym i=>by simp[aT,h]
 |.lZ .. =>by simp[aT]
def I2{ρ ρ':cj}(h:ρ.val=ρ'.val)(σ:b9):∀l:List U,b5 ρ σ l=b5 ρ' σ l
 |[]=>by simp[b5]
 |v::l=>by simp[b5,I3 h σ v,I2 h σ l]
end
def KA(h:ay)(cw:my):Bool:=cw.all λp=>match p.2 with
 |.aK e vs=>(match h.cW p.1 with|some (.cells b a _ _)=>Nat.beq e b&&U.p_ vs a|_=>false)
 |_=>false
def Ak{h:ay}{cw:my}(a:KA h cw=true){b:Nat}{x:eK}(c:(b,x)∈cw):∃e vs t wr,x=.aK e vs/\h.cW b=some (.cells e vs t wr):=by
 have:=iq.1 a _ c;cases x with
 |aK e vs=>
  simp only at this;split at this;rename_i f d t wr ar;simp only[dW]at this;refine⟨e,vs,t,wr,rfl,?_⟩;rw[ar,gK this.1,U.un this.2]
  .cases this
 |cells=>cases this
 |map=>cases this
 |mapIter=>cases this
 |loop=>cases this
 |deferred=>cases this
def nv(w:Γ)(b:Nat):Ω:=match w.heap[b]? with|some (.cells arr _ _)=>arr|_=>#[]
def qM(w:Γ)(b:Nat):Nat×Nat:=match w.heap[b]? with|some (.cells _ _ bd)=>bd|_=>(0,0)
def cj.at(ρ:cj)(w:Γ):cj:={ρ with Ar:=nv w,bd:=qM w}
def ac9{σ:b9}{p:nT}{e:TypeId}{vs:List U}{t wr:Bool}(h:kA ρ σ p w.heap[p.ba]? (.cells e vs t wr)):kA (ρ.at w) σ p w.heap[p.ba]? (.aK e vs):=by
 let⟨arr,bd,H,_,_,_,⟨cs,I,b⟩,_⟩:=h;have ak:nv w p.ba=arr:=by simp[nv,H]
 have a:qM w p.ba=bd:=by simp[qM,H]
 refine⟨cs,?_,?_,?_⟩;rw[<-I];exact I2 (ρ:=ρ.at w) (ρ':=ρ) rfl σ vs;show w.heap[p.ba]? =some (Obj.cells (nv w p.ba) e (qM w p.ba));rw[ak,a];exact H;show ∀i,i<vs.length->(nv w p.ba)[p.del+i]? =cs[i]?;rw[ak];exact b
def c_.aK{σ:b9}{h:ay}(d:c_ ρ σ h w){cw:my}(a:pR cw=true)(c:KA h cw=true):c_ (ρ.at w) σ (hA ⟨.e,h.nx⟩ cw) w:=by refine⟨λb x G=>?_,λb j x r p g G m ag l i=>?_,λb G=>d.kn b (by rw[G8]at G;exact G)⟩;obtain⟨e,vs,t,wr,rfl,ar⟩:=Ak c (Af a G);let⟨p,ag,k⟩:=d.ba b _ ar;exact⟨p,ag,ac9 k⟩;obtain⟨e,vs,t,wr,rfl,ar⟩:=Ak c (Af a G);obtain⟨q,n,s,o,rfl,f⟩:=Ak c (Af a m);exact d.inj b j _ _ p g ar f ag l i
end
end Go.cE
