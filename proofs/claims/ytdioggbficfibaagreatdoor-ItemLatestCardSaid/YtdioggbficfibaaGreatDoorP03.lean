/- ItemLatest, one part of the proof. -/
import Derived.Test.YtdioggbficfibaaGreatDoorP02
set_option linter.all false
set_option maxRecDepth 100000
set_option maxHeartbeats 16000000
namespace Go.cv
inductive ed where
 |fail
 |il (x:gH)
 |exit (id:Nat) (x:gH)
 |ret (x:gH)
def ed.jr:ed->Option (X×gH)
 |.fail=>none
 |.il x=>some (.il,x)
 |.exit id x=>some (.exit id,x)
 |.ret x=>some (.ret,x)
def VN{b:Type}(a:b):b:=a
noncomputable def aIj:O->Bool:= @O.rec (fun _=>Bool) (fun _=>Unit) (fun _ _=>true) (fun _=>true) (fun _=>true) (fun _ _=>true) true (fun _ _ _ _ _=>true) true (fun _=>true) true (fun _ _ _ _ _=>true) (fun _=>true) true (fun _ _ _=>true) true (fun _ _=>true) (fun _ _=>true) (fun _=>true) (fun _ _ _ _=>true) () (fun _ _ _ _=>())
noncomputable def CD(v:O):Bool:=aIj v
noncomputable def aF4:O->(IntKind->Int->Option O)->Option O:= @O.rec (fun _=>(IntKind->Int->Option O)->Option O) (fun _=>Unit) (fun b a k=>k b a) (fun _ _=>none) (fun _ _=>none) (fun _ _ _=>none) (fun _=>none) (fun _ _ _ _ _ _=>none) (fun _=>none) (fun _ _=>none) (fun _=>none) (fun _ _ _ _ _ _=>none) (fun _ _=>none) (fun _=>none) (fun _ _ _ _=>none) (fun _=>none) (fun _ _ _=>none) (fun _ _ _=>none) (fun _ _=>none) (fun _ _ _ _ _=>none) () (fun _ _ _ _=>())
noncomputable def Hr(v:O)(k:IntKind->Int->Option O):Option O:=aF4 v k
noncomputable def aF0:O->(Bool->Option O)->Option O:= @O.rec (fun _=>(Bool->Option O)->Option O) (fun _=>Unit) (fun _ _ _=>none) (fun a k=>k a) (fun _ _=>none) (fun _ _ _=>none) (fun _=>none) (fun _ _ _ _ _ _=>none) (fun _=>none) (fun _ _=>none) (fun _=>none) (fun _ _ _ _ _ _=>none) (fun _ _=>none) (fun _=>none) (fun _ _ _ _=>none) (fun _=>none) (fun _ _ _=>none) (fun _ _ _=>none) (fun _ _=>none) (fun _ _ _ _ _=>none) () (fun _ _ _ _=>())
noncomputable def apC(v:O)(k:Bool->Option O):Option O:=aF0 v k
noncomputable def aF5:O->(Nat->Nat->Option O)->Option O:= @O.rec (fun _=>(Nat->Nat->Option O)->Option O) (fun _=>Unit) (fun _ _ _=>none) (fun _ _=>none) (fun _ _=>none) (fun b a k=>k b a) (fun _=>none) (fun _ _ _ _ _ _=>none) (fun _=>none) (fun _ _=>none) (fun _=>none) (fun _ _ _ _ _ _=>none) (fun _ _=>none) (fun _=>none) (fun _ _ _ _=>none) (fun _=>none) (fun _ _ _=>none) (fun _ _ _=>none) (fun _ _=>none) (fun _ _ _ _ _=>none) () (fun _ _ _ _=>())
noncomputable def ac4(v:O)(k:Nat->Nat->Option O):Option O:=aF5 v k
noncomputable def aF8:O->(List Nat->Option O)->Option O:= @O.rec (fun _=>(List Nat->Option O)->Option O) (fun _=>Unit) (fun _ _ _=>none) (fun _ _=>none) (fun a k=>k a) (fun _ _ _=>none) (fun _=>none) (fun _ _ _ _ _ _=>none) (fun _=>none) (fun _ _=>none) (fun _=>none) (fun _ _ _ _ _ _=>none) (fun _ _=>none) (fun _=>none) (fun _ _ _ _=>none) (fun _=>none) (fun _ _ _=>none) (fun _ _ _=>none) (fun _ _=>none) (fun _ _ _ _ _=>none) () (fun _ _ _ _=>())
noncomputable def P_(v:O)(k:List Nat->Option O):Option O:=aF8 v k
noncomputable def aF2:O->(Bool->ed)->ed:= @O.rec (fun _=>(Bool->ed)->ed) (fun _=>Unit) (fun _ _ _=>.fail) (fun a k=>k a) (fun _ _=>.fail) (fun _ _ _=>.fail) (fun _=>.fail) (fun _ _ _ _ _ _=>.fail) (fun _=>.fail) (fun _ _=>.fail) (fun _=>.fail) (fun _ _ _ _ _ _=>.fail) (fun _ _=>.fail) (fun _=>.fail) (fun _ _ _ _=>.fail) (fun _=>.fail) (fun _ _ _=>.fail) (fun _ _ _=>.fail) (fun _ _=>.fail) (fun _ _ _ _ _=>.fail) () (fun _ _ _ _=>())
noncomputable def aF1(v:O)(k:Bool->ed):ed:=aF2 v k
noncomputable def aqb(c a b:O):Option O:=apC c fun t=> @Bool.rec (fun _=>Option O) (@Bool.rec (fun _=>Option O) none (some b) (CD b)) (@Bool.rec (fun _=>Option O) none (some a) (CD a)) t
noncomputable def ZU(l:List Nat)(m:Nat):Option Nat:= @List.rec Nat (fun _=>Nat->Option Nat) (fun _=>none) (fun a _ b m=> @Nat.rec (fun _=>Option Nat) (some a) (fun p _=>b p) m) l m
theorem aj_:∀(l:List Nat) (m:Nat),ZU l m=l[m]?
 |[],m=>rfl
 |a::l,0=>rfl
 |a::l,m+1=>by show ZU l m=_;rw[aj_ l m];simp
noncomputable def ab9(l:List Nat):Nat:= @List.rec Nat (fun _=>Nat) 0 (fun _ _ a=>Nat.succ a) l
theorem ano:∀(l:List Nat),ab9 l=l.length
 |[]=>rfl
 |a::l=>by show Nat.succ (ab9 l)=_;rw[ano l];simp
noncomputable def Vw(l:List Nat):List Nat->Bool:= @List.rec Nat (fun _=>List Nat->Bool) (fun m=> @List.rec Nat (fun _=>Bool) true (fun _ _ _=>false) m) (fun a _ c m=> @List.rec Nat (fun _=>Bool) false (fun b m _=> @Bool.rec (fun _=>Bool) false (c m) (Nat.beq a b)) m) l
theorem adz:∀(l m:List Nat),Vw l m=xH l m
 |[],[]=>rfl
 |[],_::_=>rfl
 |_::_,[]=>rfl
 |a::l,b::m=>by
  show @Bool.rec (fun _=>Bool) false (Vw l m) (Nat.beq a b)=_
  rw[xH,adz l m]
  cases Nat.beq a b<;>rfl
noncomputable def amL(s i:O):Option O:=P_ s fun l=>Hr i fun _ n=> @Int.rec (fun _=>Option O) (fun m=> @Option.rec Nat (fun _=>Option O) none (fun b=>some (.int .u8 (.ofNat b))) (ZU l m)) (fun _=>none) n
noncomputable def anp(s:O):Option O:=P_ s fun l=>vO (ab9 l)
noncomputable def ajR(off:Nat)(p:O):Option O:=ac4 p fun b o=>vW (Nat.add o off) fun q=>some (.iZ b q)
noncomputable def PK(a b:Int):Bool:= @Int.rec (fun _=>Bool) (fun m=> @Int.rec (fun _=>Bool) (fun n=>Nat.blt m n) (fun _=>vM a b) b) (fun _=>vM a b) a
theorem aD5(a b:Int):PK a b=vM a b:=by cases a<;>cases b<;>rfl
noncomputable def Zo(a b:Int):Bool:= @Int.rec (fun _=>Bool) (fun m=> @Int.rec (fun _=>Bool) (fun n=>Nat.beq m n) (fun _=>w9 a b) b) (fun _=>w9 a b) a
theorem ayJ(a b:Int):Zo a b=w9 a b:=by cases a<;>cases b<;>rfl
inductive zB where
 |eql
 |neq
 |lss
 |leq
 |gtr
 |geq
def zB.op:zB->BinOp
 |.eql=>.eql
 |.neq=>.neq
 |.lss=>.lss
 |.leq=>.leq
 |.gtr=>.gtr
 |.geq=>.geq
noncomputable def Ev(b:Bool):Bool:= @Bool.rec (fun _=>Bool) true false b
theorem apo(b:Bool):Ev b= !b:=by cases b<;>rfl
noncomputable def aiG(c:zB):Int->Int->Bool:= @zB.rec (fun _=>Int->Int->Bool) (fun a b=>Zo a b) (fun a b=>Ev (Zo a b)) (fun a b=>PK a b) (fun a b=>Ev (PK b a)) (fun a b=>PK b a) (fun a b=>Ev (PK a b)) c
noncomputable def SA(b:Bool):Option O:= @Bool.rec (fun _=>Option O) (some (.bool false)) (some (.bool true)) b
theorem Yt(b:Bool):SA b=some (.bool b):=by cases b<;>rfl
noncomputable def ana:IntKind->Nat:= @IntKind.rec (fun _=>Nat) 0 1 2 3 4 5 6 7
noncomputable def WW(a b:IntKind):Bool:=Nat.beq (ana a) (ana b)
theorem am'{a b:IntKind}(h:WW a b=true):a=b:=by cases a<;>cases b<;>first|rfl|cases h
noncomputable def aiF(c:zB)(x y:O):Option O:=Hr x fun j a=>Hr y fun k b=> @Bool.rec (fun _=>Option O) none (SA (aiG c a b)) (WW j k)
noncomputable def ajJ(neg:Bool)(x y:O):Option O:=P_ x fun a=>P_ y fun b=> @Bool.rec (fun _=>Option O) (SA (Vw a b)) (SA (Ev (Vw a b))) neg
noncomputable def aFc:O->Option O:= @O.rec (fun _=>Option O) (fun _=>Unit) (fun _ _=>none) (fun _=>none) (fun _=>none) (fun b o=>some (.iZ b o)) none (fun _ _ _ _ _=>none) none (fun _=>none) none (fun f x y _ _=>some (.fn f x y)) (fun b=>some (.xS b)) none (fun t v _=>some (.iface t v)) none (fun _ _=>none) (fun _ _=>none) (fun _=>none) (fun _ _ _ _=>none) () (fun _ _ _ _=>())
noncomputable def apk(v:O):Option O:=aFc v
noncomputable def aDJ:O->Option O:= @O.rec (fun _=>Option O) (fun _=>Unit) (fun _ _=>none) (fun _=>none) (fun _=>none) (fun _ _=>none) none (fun _ _ n _ _=>vO n) (vO 0) (fun _=>none) none (fun _ _ _ _ _=>none) (fun _=>none) none (fun _ _ _=>none) none (fun _ _=>none) (fun _ _=>none) (fun _=>none) (fun _ _ _ _=>vO 0) () (fun _ _ _ _=>())
noncomputable def ann(v:O):Option O:=aDJ v
noncomputable def aF6:O->(Nat->Nat->Nat->Option O)->Option O:= @O.rec (fun _=>(Nat->Nat->Nat->Option O)->Option O) (fun _=>Unit) (fun _ _=>fun _=>none) (fun _=>fun _=>none) (fun _=>fun _=>none) (fun _ _=>fun _=>none) (fun _=>none) (fun b o n _ _ k=>k b o n) (fun _=>none) (fun _=>fun _=>none) (fun _=>none) (fun _ _ _ _ _=>fun _=>none) (fun _=>fun _=>none) (fun _=>none) (fun _ _ _=>fun _=>none) (fun _=>none) (fun _ _=>fun _=>none) (fun _ _=>fun _=>none) (fun _=>fun _=>none) (fun _ _ _ _=>fun _=>none) () (fun _ _ _ _=>())
noncomputable def apE(v:O)(k:Nat->Nat->Nat->Option O):Option O:=aF6 v k
noncomputable def ah5(x y:O):Option O:=Hr x fun j a=>Hr y fun k b=> @Bool.rec (fun _=>Option O) none (yQ j (X_ a b)) (WW j k)
noncomputable def amJ(n:Nat)(x y:O):Option O:=apE x fun b o len=>Hr y fun _ i=> @Int.rec (fun _=>Option O) (fun m=> @Bool.rec (fun _=>Option O) none (vW (o+m*n) fun q=>some (.iZ b q)) (Nat.blt m len)) (fun _=>none) i
noncomputable def N5(l:List O)(m:Nat):Option O:= @List.rec O (fun _=>Nat->Option O) (fun _=>none) (fun a _ b m=> @Nat.rec (fun _=>Option O) (some a) (fun p _=>b p) m) l m
theorem ZT:∀(l:List O) (m:Nat),N5 l m=l[m]?
 |[],m=>rfl
 |a::l,0=>rfl
 |a::l,m+1=>by show N5 l m=_;rw[ZT l m];simp
noncomputable def aw':eC->(List O->Option O)->Option O:= @eC.rec (fun _=>(List O->Option O)->Option O) (fun _ vs _ _ k=>k vs) (fun _ _ _=>none) (fun _ _ _ _ _=>none) (fun _ _ _ _ _ _ _=>none) (fun _=>none) (fun _ vs k=>k vs)
noncomputable def Ti:T eC->Nat->Option eC:= @T.rec eC (fun _=>Nat->Option eC) (fun _=>none) (fun v _ _ b a k=> @Bool.rec (fun _=>Option eC) (@Bool.rec (fun _=>Option eC) (a (Nat.sub (Nat.div k 2) 1)) (b (Nat.div k 2)) (Nat.beq (Nat.mod k 2) 1)) v (Nat.beq k 0))
theorem ZV:∀(t:T eC) (k:Nat),Ti t k=t.cR k
 |.e,k=>rfl
 |.n v l r,k=>by
  show @Bool.rec (fun _=>Option eC) (@Bool.rec (fun _=>Option eC) (Ti r (Nat.sub (Nat.div k 2) 1)) (Ti l (Nat.div k 2)) (Nat.beq (Nat.mod k 2) 1)) v (Nat.beq k 0)=_
  rw[T.cR,ZV l,ZV r]
  cases Nat.beq k 0<;>cases Nat.beq (Nat.mod k 2) 1<;>rfl
noncomputable def anl(x:O)(h:aw):Option O:=ac4 x fun b off=> @Option.rec eC (fun _=>Option O) none (fun q=>aw' q fun vs=>N5 vs off) (Ti h.t b)
inductive jg where
 |gen (c:ib)
 |acK (d:Nat) (x:S->O)
 |ZW (lY:S->O) (h5:Bool) (d:Nat) (x:S->O)
 |pick (d':Option ((S->O)×Bool)) (d:Option Nat) (c x y:S->O)
 |YM (d':Option ((S->O)×Bool)) (d:Option Nat) (c:zB) (x y:S->O)
 |S7 (d':Option ((S->O)×Bool)) (d:Option Nat) (neg:Bool) (x y:S->O)
 |index (d':Option ((S->O)×Bool)) (d:Option Nat) (x y:S->O)
 |ab_ (d':Option ((S->O)×Bool)) (d:Option Nat) (x:S->O)
 |field (d':Option ((S->O)×Bool)) (d:Option Nat) (off:Nat) (x:S->O)
 |acP (d':Option ((S->O)×Bool)) (d:Option Nat) (x:S->O)
 |ab8 (d':Option ((S->O)×Bool)) (d:Option Nat) (x:S->O)
 |add (d':Option ((S->O)×Bool)) (d:Option Nat) (x y:S->O)
 |abJ (d':Option ((S->O)×Bool)) (d:Option Nat) (n:Nat) (x y:S->O)
 |Cw (d':Option ((S->O)×Bool)) (d:Option Nat) (n:Nat) (x:S->O)
def jg.sd:jg->ib
 |.gen c=>c
 |.acK d x=>⟨none,some d,[x],.pv (.pure Cy)⟩
 |.ZW b a d x=>⟨some (b,a),some d,[x],.pv (.pure Cy)⟩
 |.pick d' d c x y=>⟨d',d,[c,x,y],.pv (.pure Qc)⟩
 |.YM d' d c x y=>⟨d',d,[x,y],.pv (.pure (tF c.op))⟩
 |.S7 d' d neg x y=>⟨d',d,[x,y],.pv (.pure (tF (bif neg then .neq else .eql)))⟩
 |.index d' d x y=>⟨d',d,[x,y],.pv (.pure KF)⟩
 |.ab_ d' d x=>⟨d',d,[x],.pv (.pure PH)⟩
 |.field d' d off x=>⟨d',d,[x],.pv (.pure (N2 off))⟩
 |.acP d' d x=>⟨d',d,[x],.pv (.pure PU)⟩
 |.ab8 d' d x=>⟨d',d,[x],.pv (.pure PG)⟩
 |.add d' d x y=>⟨d',d,[x,y],.pv (.pure (tF .add))⟩
 |.abJ d' d n x y=>⟨d',d,[x,y],.pv (.pure (KE n))⟩
 |.Cw d' d n x=>⟨d',d,[x],.pv (.r7 (Es false n))⟩
noncomputable def Va(d:Option Nat)(v:O)(s:S):S:= @Option.rec Nat (fun _=>S) s (fun d=>put d v s) d
theorem adi(d:Option Nat)(v:O)(s:S):Va d v s=ps d v s:=by cases d<;>rfl
noncomputable def azI:O->Bool->(Bool->ed)->ed:= @O.rec (fun _=>Bool->(Bool->ed)->ed) (fun _=>Unit) (fun _ _ _ k=>k false) (fun b w k=>k (@Bool.rec (fun _=>Bool) (Ev w) w b)) (fun _ _ k=>k false) (fun _ _ _ k=>k false) (fun _ k=>k false) (fun _ _ _ _ _ _ k=>k false) (fun _ k=>k false) (fun _ _ k=>k false) (fun _ k=>k false) (fun _ _ _ _ _ _ k=>k false) (fun _ _ k=>k false) (fun _ k=>k false) (fun _ _ _ _ k=>k false) (fun _ k=>k false) (fun _ _ _ k=>k false) (fun _ _ _ k=>k false) (fun _ _ _=>.fail) (fun _ _ _ _ _ k=>k false) () (fun _ _ _ _=>())
noncomputable def Tm(v:O)(a:Bool)(k:Bool->ed):ed:=azI v a k
theorem azJ(v:O)(a:Bool)(k:Bool->ed):Tm v a k= @Option.rec Bool (fun _=>ed) .fail k (Ap v a):=by
 cases v<;>first|rfl|(rename_i b;cases b<;>cases a<;>rfl)
noncomputable def Th(d':Option ((S->O)×Bool))(d:Option Nat)(s:S)(h:aw)(k:S->aw->ed)(go:ed):ed:=
 @Option.rec _ (fun _=>ed) go (fun p=>Tm (p.1 s) p.2 fun b=> @Bool.rec (fun _=>ed) (k (Va d ql s) h) go b) d'
noncomputable def uo(d':Option ((S->O)×Bool))(d:Option Nat)(s:S)(h:aw)(k:S->aw->ed)(r:Option O):ed:=
 Th d' d s h k (@Option.rec O (fun _=>ed) .fail (fun v=>k (Va d v s) h) r)
noncomputable def aeu(aP:List (S->O))(s:S):List O:= @List.rec _ (fun _=>List O) [] (fun x _ a=>x s::a) aP
theorem asp(s:S):∀(aP:List (S->O)),aeu aP s=mS aP s
 |[]=>rfl
 |x::l=>by show x s::aeu l s=_;rw[asp s l];rfl
noncomputable def azy(c:ib)(E:jE)(s:S)(h:aw)(k:S->aw->ed):ed:=Th c.guard c.dst s h k (@Option.rec _ (fun _=>ed) .fail (fun r=>k (Va c.dst r.1 s) r.2) (BT E c.k (aeu c.aP s) h))
noncomputable def aJA:jg->jE->S->aw->(S->aw->ed)->ed:=
 @jg.rec (fun _=>jE->S->aw->(S->aw->ed)->ed) azy
  (fun d x _ s h k=> @Bool.rec (fun _=>ed) .fail (k (put d (x s) s) h) (CD (x s)))
  (fun e a d x _ s h k=>Tm (e s) a fun b=> @Bool.rec (fun _=>ed) (k (put d ql s) h) (@Bool.rec (fun _=>ed) .fail (k (put d (x s) s) h) (CD (x s))) b)
  (fun d' d c x y _ s h k=>uo d' d s h k (aqb (c s) (x s) (y s)))
  (fun d' d c x y _ s h k=>uo d' d s h k (aiF c (x s) (y s)))
  (fun d' d neg x y _ s h k=>uo d' d s h k (ajJ neg (x s) (y s)))
  (fun d' d x y _ s h k=>uo d' d s h k (amL (x s) (y s)))
  (fun d' d x _ s h k=>uo d' d s h k (anp (x s)))
  (fun d' d off x _ s h k=>uo d' d s h k (ajR off (x s)))
  (fun d' d x _ s h k=>uo d' d s h k (apk (x s)))
  (fun d' d x _ s h k=>uo d' d s h k (ann (x s)))
  (fun d' d x y _ s h k=>uo d' d s h k (ah5 (x s) (y s)))
  (fun d' d n x y _ s h k=>uo d' d s h k (amJ n (x s) (y s)))
  (fun d' d _ x _ s h k=>uo d' d s h k (anl (x s) h))
noncomputable def arS(E:jE)(o:jg)(s:S)(h:aw)(k:S->aw->ed):ed:=aJA o E s h k
noncomputable def ara(E:jE)(l:List jg):S->aw->(S->aw->ed)->ed:=
 @List.rec jg (fun _=>S->aw->(S->aw->ed)->ed) (fun s h k=>k s h) (fun o _ a s h k=>arS E o s h fun s h=>a s h k) l
section
variable {E:jE}
variable{t:Bool}
theorem U6{a b:ed}{r:X×gH}(h:(@Bool.rec (fun _=>ed) a b t).jr=some r):(t=true/\b.jr=some r)∨(t=false/\a.jr=some r):=by
 cases t;exact .inr ⟨rfl,h⟩;exact .inl ⟨rfl,h⟩
variable{d:Option Nat}
theorem aj7{d':Option ((S->O)×Bool)}{s:S}{h:aw}{k:S->aw->ed}{go:ed}{aP:List (S->O)}{op:yg}{l:List ib}{r:X×gH}{F:S×aw->Option (X×gH)} (i:∀s h,(k s h).jr=some r->(ot E l s h).bind F=some r)(a:go.jr=some r->((BT E op (mS aP s) h).bind fun q=>(ot E l (ps d q.1 s) q.2).bind F)=some r) (e:(Th d' d s h k go).jr=some r):(ot E (⟨d',d,aP,op⟩::l) s h).bind F=some r:=by
 simp only[ot];have g:∀q,q=(BT E op (mS aP s) h)->(q.bind fun q=>(ot E l (ps d q.1 s) q.2).bind F)=some r->Option.bind (match q with|some (v,f)=>ot E l (ps d v s) f|none=>none) F=some r:=fun q _ c=>by
  cases q with
  |none=>simp at c
  |some q=>obtain⟨v,f⟩:=q;simpa using c
 cases d' with
 |none=>exact g _ rfl (a e)
 |some p=>
  obtain⟨x,j⟩:=p;simp only[Th,azJ]at e;cases an:Ap (x s) j with
  |none=>rw[an]at e;simp[ed.jr]at e
  |some b=>
   rw[an]at e;simp only[an];cases b with
   |false=>simp only at e⊢;rw[adi]at e;exact i _ _ e
   |true=>simp only at e⊢;exact g _ rfl (a e)
theorem A0{d':Option ((S->O)×Bool)}{s:S}{h:aw}{k:S->aw->ed}{v:Option O}{aP:List (S->O)}{f:List O->Option O}{l:List ib}{r:X×gH}{F:S×aw->Option (X×gH)} (J:∀u,v=some u->f (mS aP s)=some u)(L:∀s h,(k s h).jr=some r->(ot E l s h).bind F=some r) (e:(uo d' d s h k v).jr=some r):(ot E (⟨d',d,aP,.pv (.pure f)⟩::l) s h).bind F=some r:=by
 exact aom
theorem KX{v:O}{k:IntKind->Int->Option O}{u:O}(h:Hr v k=some u):∃j n,v=.int j n/\k j n=some u:=by
 cases v<;>first|exact⟨_,_,rfl,h⟩|cases h
theorem aF3{v:O}{k:Bool->Option O}{u:O}(h:apC v k=some u):∃b,v=.bool b/\k b=some u:=by
 cases v<;>first|exact⟨_,rfl,h⟩|cases h
theorem apD{v:O}{k:Nat->Nat->Option O}{u:O}(h:ac4 v k=some u):∃b o,v=.iZ b o/\k b o=some u:=by
 cases v<;>first|exact⟨_,_,rfl,h⟩|cases h
theorem U5{v:O}{k:List Nat->Option O}{u:O}(h:P_ v k=some u):∃s,v=.str s/\k s=some u:=by
 cases v<;>first|exact⟨_,rfl,h⟩|cases h
theorem Qk{a:Option O}{u:O}(h: @Bool.rec (fun _=>Option O) none a t=some u):t=true/\a=some u:=by
 cases t;cases h;exact⟨rfl,h⟩
theorem aGJ{c a b u:O}(ae:aqb c a b=some u):Qc [c,a,b]=some u:=by
 obtain⟨t,rfl,h⟩:=aF3 ae;cases t;exact(Qk h).2;exact(Qk h).2
theorem axq{c:zB}{x y u:O}(ae:aiF c x y=some u):tF c.op [x,y]=some u:=by
 obtain⟨j,a,rfl,H⟩:=KX ae;obtain⟨k,b,rfl,I⟩:=KX (v:=y) H;obtain⟨f,d⟩:=Qk I;rw[Yt]at d;have e:decide (j=k)=true:=by simp[am' f]
 cases c<;>simp only[tF,zB.op,Em,jt,e,eP,Na]<;>rw[←d]<;>simp[aiG,apo,aD5,ayJ]
theorem ayM{neg:Bool}{x y u:O}(ae:ajJ neg x y=some u):tF (bif neg then .neq else .eql) [x,y]=some u:=by
 obtain⟨a,rfl,H⟩:=U5 ae;obtain⟨b,rfl,I⟩:=U5 (v:=y) H;cases neg;simp only[Yt]at I;rw[←I];simp[tF,Nb,adz];simp only[Yt]at I;rw[←I];simp[tF,Nb,adz,apo]
theorem aCI{x y u:O}(ae:amL x y=some u):KF [x,y]=some u:=by
 obtain⟨l,rfl,H⟩:=U5 ae;obtain⟨j,n,rfl,h⟩:=KX (v:=y) H;cases n with
 |ofNat m=>
  simp only[aj_]at h;simp only[KF];cases a:l[m]? with
  |none=>rw[a]at h;cases h
  |some b=>rw[a]at h;simpa[Ba]using h
 |negSucc m=>cases h
theorem aDM{x u:O}(ae:anp x=some u):PH [x]=some u:=by
 obtain⟨l,rfl,h⟩:=U5 ae;rw[ano]at h;exact h
theorem ay7{off:Nat}{x u:O}(ae:ajR off x=some u):N2 off [x]=some u:=by
 obtain⟨b,o,rfl,h⟩:=apD ae;rw[Ba]at h;exact h
theorem aFd{x u:O}(h:apk x=some u):PU [x]=some u:=by cases x<;>first|exact h|cases h
theorem aDK{x u:O}(h:ann x=some u):PG [x]=some u:=by cases x<;>first|exact h|cases h
theorem awg{x y u:O}(ae:ah5 x y=some u):tF .add [x,y]=some u:=by
 obtain⟨j,a,rfl,H⟩:=KX ae;obtain⟨k,b,rfl,I⟩:=KX (v:=y) H;obtain⟨c,d⟩:=Qk I;have c:=am' c;subst c;simpa[tF,Em,Na]using d
theorem aF7{v:O}{k:Nat->Nat->Nat->Option O}{u:O}(h:apE v k=some u):∃b o n e c,v=.slice b o n e c/\k b o n=some u:=by
 cases v<;>first|exact⟨_,_,_,_,_,rfl,h⟩|cases h
theorem aCC{n:Nat}{x y u:O}(ae:amJ n x y=some u):KE n [x,y]=some u:=by
 obtain⟨b,o,len,e,c,rfl,H⟩:=aF7 ae;obtain⟨k,i,rfl,I⟩:=KX (v:=y) H;cases i with
 |ofNat m=>obtain⟨d,a⟩:=Qk I;simp only[KE,d,eP];exact a
 |negSucc m=>cases I
theorem aDF{n:Nat}{x u:O}{h:aw}(ae:anl x h=some u):Es false n [x] h=some u:=by
 obtain⟨b,off,rfl,H⟩:=apD ae;simp only[ZV]at H;have an:h.cR b=h.t.cR b:=rfl;simp only[Es,an];cases a:h.t.cR b with
 |none=>rw[a]at H;cases H
 |some q=>
  rw[a]at H;cases q<;>first|(cases H;done)|skip
  rename_i c vs d wr;have I:N5 vs off=some u:=H;rw[ZT]at I;simpa using I;rename_i c vs;have I:N5 vs off=some u:=H;rw[ZT]at I;simpa using I
theorem aDS{d':Option ((S->O)×Bool)}{s:S}{h:aw}{k:S->aw->ed}{v:Option O}{aP:List (S->O)}{f:List O->aw->Option O}{l:List ib}{r:X×gH}{F:S×aw->Option (X×gH)} (J:∀u,v=some u->f (mS aP s) h=some u)(L:∀s h,(k s h).jr=some r->(ot E l s h).bind F=some r) (e:(uo d' d s h k v).jr=some r):(ot E (⟨d',d,aP,.pv (.r7 f)⟩::l) s h).bind F=some r:=by
 exact aom
theorem aJC{o:jg}{l:List ib}{s:S}{h:aw}{k:S->aw->ed}{r:X×gH}{F:S×aw->Option (X×gH)}(a:∀s h,(k s h).jr=some r->(ot E l s h).bind F=some r) (e:(arS E o s h k).jr=some r):(ot E (o.sd::l) s h).bind F=some r:=by
 cases o with
 |gen c=>
  obtain⟨d',d,aP,op⟩:=c;refine aj7 a (fun aO=>?_) e;simp only[asp]at aO;cases m:BT E op (mS aP s) h with
  |none=>rw[m]at aO;simp[ed.jr]at aO
  |some q=>rw[m]at aO;simp only[adi]at aO;exact a _ _ aO
 |acK d x=>
  rcases U6 e with⟨_,e⟩|⟨_,e⟩
  simp only[jg.sd,ot,mS,BT,zX,Cy,ps];exact a _ _ e
  ·simp[ed.jr]at e
 |ZW t f d x=>
  have g:(Tm (t s) f fun b=> @Bool.rec (fun _=>ed) (k (put d ql s) h) (@Bool.rec (fun _=>ed) .fail (k (put d (x s) s) h) (CD (x s))) b).jr=some r:=e;simp only[jg.sd,ot,mS,BT,zX,Cy,ps];cases an:t s<;>rw[an]at g<;>first|(cases g;done)|(simp only[Ap];exact a _ _ g)|skip
  rename_i b;have p:(@Bool.rec (fun _=>ed) (k (put d ql s) h) (@Bool.rec (fun _=>ed) .fail (k (put d (x s) s) h) (CD (x s))) (@Bool.rec (fun _=>Bool) (Ev f) f b)).jr=some r:=g;have A:(@Bool.rec (fun _=>Bool) (Ev f) f b)=(b==f):=by cases b<;>cases f<;>rfl
  rw[A]at p;rcases U6 p with⟨H,i⟩|⟨H,i⟩
  ·simp only[Ap,H];rcases U6 i with⟨_,j⟩|⟨_,j⟩
   exact a _ _ j;cases j
  ·simp only[Ap,H];exact a _ _ i
 |pick d' d c x y=>exact A0 (fun u hu=>aGJ hu) a e
 |YM d' d c x y=>exact A0 (fun u hu=>axq hu) a e
 |S7 d' d neg x y=>exact A0 (fun u hu=>ayM hu) a e
 |index d' d x y=>exact A0 (fun u hu=>aCI hu) a e
 |ab_ d' d x=>exact A0 (fun u hu=>aDM hu) a e
 |field d' d off x=>exact A0 (fun u hu=>ay7 hu) a e
 |acP d' d x=>exact A0 (fun u hu=>aFd hu) a e
 |ab8 d' d x=>exact A0 (fun u hu=>aDK hu) a e
 |add d' d x y=>exact A0 (fun u hu=>awg hu) a e
 |abJ d' d n x y=>exact A0 (fun u hu=>aCC hu) a e
 |Cw d' d n x=>exact aDS (fun u hu=>aDF hu) a e
theorem arb{r:X×gH}{F:S×aw->Option (X×gH)}{k:S->aw->ed}(a:∀s h,(k s h).jr=some r->F (s,h)=some r):∀{l:List jg} {s:S} {h:aw},(ara E l s h k).jr=some r->(ot E (l.map jg.sd) s h).bind F=some r
 |[],s,h,e=>by simp only[ID,ot,C1];exact a _ _ e
 |o::l,s,h,e=>by
  simp only[qO]
  exact aJC (fun s h aO=>arb a aO) e
end
end Go.cv
namespace Go.cv
open Go.Proofs.Tryz
inductive wR where
 |skip
 |exit (id:Nat)
 |ret
 |seq (a b:wR)
 |cond (t:S->O) (a b:wR)
 |block (id:Nat) (a:wR)
 |loop (a:wR)
 |region (rs:List jg)
 |Gj (rs:List qa) (b7:Nat)
 |range (key ay:Nat) (gC:S->O)
 |fail
def wR.CI:wR->mV
 |.skip=>.skip
 |.exit id=>.exit id
 |.ret=>.ret
 |.seq a b=>.seq a.CI b.CI
 |.cond t a b=>.cond t a.CI b.CI
 |.block id a=>.block id a.CI
 |.loop a=>.loop a.CI
 |.region rs=>.region (rs.map jg.sd)
 |.Gj rs c=>.Gj rs c
 |.range key ay d=>.range key ay d
 |.fail=>.fail
noncomputable def CE(q:dY O):Bool:= @dY.rec O (fun _=>Bool) (fun _ _ _ _ _ _ _ _ _ _ _ _ _ _ _ _=>true) q
noncomputable def Fe(a b:Bool):Bool:= @Bool.rec (fun _=>Bool) false b a
noncomputable def VP(s:S):Bool:=Fe (CE s.a0) (Fe (CE s.bW) (Fe (CE s.cD) (Fe (CE s.a3) (Fe (CE s.a4) (Fe (CE s.a5) (Fe (CE s.eT) (Fe (CE s.fs) (CE s.ft))))))))
noncomputable def adH(F a:gH->ed)(x:gH):ed:= @ed.rec (fun _=>ed) .fail (fun y=>a y) (fun id y=>.exit id y) (fun y=>.ret y) (F x)
noncomputable def YW(t:S->O)(F a:gH->ed)(x:gH):ed:=aF1 (t x.s) fun b=> @Bool.rec (fun _=>ed) (a x) (F x) b
noncomputable def Ys(id:Nat)(F:gH->ed)(x:gH):ed:= @ed.rec (fun _=>ed) .fail (fun y=>.il y) (fun j y=> @Bool.rec (fun _=>ed) (.exit j y) (.il y) (Nat.beq j id)) (fun y=>.ret y) (F x)
noncomputable def Pv(F:gH->ed)(n:Nat):gH->ed:= @Nat.rec (fun _=>gH->ed) (fun _=>.fail) (fun _ a x=> @ed.rec (fun _=>ed) .fail (fun y=> @Bool.rec (fun _=>ed) .fail (VN (a y)) (VP y.s)) (fun id y=>.exit id y) (fun y=>.ret y) (F x)) n
def P5:Option (X×gH)->ed
 |none=>.fail
 |some (.il,x)=>.il x
 |some (.exit id,x)=>.exit id x
 |some (.ret,x)=>.ret x
theorem apt(r:Option (X×gH)):(P5 r).jr=r:=by
 rcases r with _|⟨_|_|_,x⟩<;>rfl
noncomputable def adG(E:jE)(n:Nat)(c:wR):gH->ed:=
 @wR.rec (fun _=>gH->ed) (fun x=>.il x) (fun id x=>.exit id x) (fun x=>.ret x) (fun _ _ f g x=>adH f g x) (fun t _ _ f g x=>YW t f g x) (fun id _ f x=>Ys id f x) (fun _ f x=>Pv f n x)
  (fun rs x=>ara E rs x.s x.h fun s h=>.il ⟨s,h,x.jX⟩) (fun rs a x=>P5 (NO (rs.map (qa.Bd E)) a x)) (fun key ay b x=>P5 (Qh E key ay b x)) (fun _=>.fail) c
section
variable {E:jE}
theorem aGe{F d:gH->ed}{e c:ko}(b:∀x r,(F x).jr=some r->e x=some r)(f:∀x r,(d x).jr=some r->c x=some r)(x:gH)(r:X×gH)(h:(adH F d x).jr=some r):Qv e c x=some r:=by
 unfold adH at h;unfold Qv;cases a:F x with
 |fail=>rw[a]at h;cases h
 |il y=>rw[a]at h;rw[b x (.il,y) (by rw[a];rfl)];exact f y r h
 |exit id y=>rw[a]at h;rw[b x (.exit id,y) (by rw[a];rfl)];exact h
 |ret y=>rw[a]at h;rw[b x (.ret,y) (by rw[a];rfl)];exact h
theorem aGc{t:S->O}{F c:gH->ed}{d a:ko}(e:∀x r,(F x).jr=some r->d x=some r)(f:∀x r,(c x).jr=some r->a x=some r)(x:gH)(r:X×gH)(h:(YW t F c x).jr=some r):NC t d a x=some r:=by
 unfold YW at h;unfold NC;cases ai:t x.s<;>rw[ai]at h<;>first|cases h|skip
 rename_i b;cases b;exact f x r h;exact e x r h
theorem aGb{id:Nat}{F:gH->ed}{c:ko}(b:∀x r,(F x).jr=some r->c x=some r)(x:gH)(r:X×gH)(h:(Ys id F x).jr=some r):Nd id c x=some r:=by
 unfold Ys at h;unfold Nd;cases a:F x with
 |fail=>rw[a]at h;cases h
 |il y=>rw[a]at h;rw[b x (.il,y) (by rw[a];rfl)];exact h
 |exit j y=>
  rw[a]at h;rw[b x (.exit j,y) (by rw[a];rfl)];simp only at h⊢;cases A:Nat.beq j id with
  |false=>rw[A]at h;exact h
  |true=>rw[A]at h;exact h
 |ret y=>rw[a]at h;rw[b x (.ret,y) (by rw[a];rfl)];exact h
theorem apL{F:gH->ed}{f:ko}(e:∀x r,(F x).jr=some r->f x=some r):∀(n:Nat) (x:gH) (r:X×gH),(Pv F n x).jr=some r->En f n x=some r
 |0,x,r,h=>by cases h
 |n+1,x,r,h=>by
  have c:(@ed.rec (fun _=>ed) .fail (fun y=> @Bool.rec (fun _=>ed) .fail (VN (Pv F n y)) (VP y.s)) (fun id y=>.exit id y) (fun y=>.ret y) (F x)).jr=some r:=h
  simp only[En]
  cases d:F x with
  |fail=>rw[d]at c;cases c
  |il y=>
   rw[d]at c
   rw[e x (.il,y) (by rw[d];rfl)]
   have c:(@Bool.rec (fun _=>ed) .fail (VN (Pv F n y)) (VP y.s)).jr=some r:=c
   rcases U6 (t:=VP y.s) (a:=.fail) (b:=VN (Pv F n y)) (r:=r) c with⟨_,I⟩|⟨_,I⟩
   ·exact apL e n y r I
   ·cases I
  |exit id y=>rw[d]at c;rw[e x (.exit id,y) (by rw[d];rfl)];exact c
  |ret y=>rw[d]at c;rw[e x (.ret,y) (by rw[d];rfl)];exact c
theorem EH{n:Nat}:∀(c:wR) (x:gH) (r:X×gH),(adG E n c x).jr=some r->ta E n c.CI x=some r
 |.skip,x,r,h=>h
 |.exit _,x,r,h=>h
 |.ret,x,r,h=>h
 |.seq a b,x,r,h=>aGe (EH a) (EH b) x r h
 |.cond t a b,x,r,h=>aGc (EH a) (EH b) x r h
 |.block id a,x,r,h=>aGb (EH a) x r h
 |.loop a,x,r,h=>apL (EH a) n x r h
 |.region rs,x,r,h=>by
  have:=arb (E:=E) (F:=fun q=>some (.il,⟨q.1,q.2,x.jX⟩)) (k:=fun s h=>.il ⟨s,h,x.jX⟩) (fun s h e=>e) (l:=rs) (s:=x.s) (h:=x.h) (r:=r) h
  show Ql E (rs.map jg.sd) x=some r
  unfold Ql
  cases f:ot E (rs.map jg.sd) x.s x.h with
  |none=>rw[f]at this;simp at this
  |some q=>rw[f]at this;simpa using this
 |.Gj rs g,x,r,h=>by
  have d:(P5 (NO (rs.map (qa.Bd E)) g x)).jr=some r:=h
  rw[apt]at d
  exact d
 |.range key ay i,x,r,h=>by
  have d:(P5 (Qh E key ay i x)).jr=some r:=h
  rw[apt]at d
  exact d
 |.fail,x,r,h=>by cases h
end
def YN:BinOp->Option zB
 |.eql=>some .eql
 |.neq=>some .neq
 |.lss=>some .lss
 |.leq=>some .leq
 |.gtr=>some .gtr
 |.geq=>some .geq
 |_=>none
theorem axr{b:BinOp}{c:zB}(h:YN b=some c):c.op=b:=by
 cases b<;>simp[YN]at h<;>subst h<;>rfl
def FH(aP:List (S->O))(d:jg)(f:(S->O)->jg):jg:=match aP with
 |[]=>d
 |x::l=>match l with
  |[]=>f x
  |_::_=>d
def Ey(aP:List (S->O))(d:jg)(f:(S->O)->(S->O)->jg):jg:=match aP with
 |[]=>d
 |x::l=>match l with
  |[]=>d
  |y::l=>match l with
   |[]=>f x y
   |_::_=>d
def apF(aP:List (S->O))(d:jg)(f:(S->O)->(S->O)->(S->O)->jg):jg:=match aP with
 |[]=>d
 |x::l=>Ey l d (f x)
def SR(c:ib):jg:=match c.dst with
 |none=>.gen c
 |some d=>FH c.aP (.gen c) fun x=>match c.guard with
  |none=>.acK d x
  |some p=>.ZW p.1 p.2 d x
def ai'(P:Program)(b:BinOp)(t:TypeId)(c:ib):jg:=match P.underlying t with
 |some d=>match d with
  |.int _=>match YN b with
   |some m=>Ey c.aP (.gen c) fun x y=>.YM c.guard c.dst m x y
   |none=>match b with
    |.add=>Ey c.aP (.gen c) fun x y=>.add c.guard c.dst x y
    |_=>.gen c
  |.string=>match b with
   |.eql=>Ey c.aP (.gen c) fun x y=>.S7 c.guard c.dst false x y
   |.neq=>Ey c.aP (.gen c) fun x y=>.S7 c.guard c.dst true x y
   |_=>.gen c
  |_=>.gen c
 |none=>.gen c
def aja(P:Program)(t:TypeId)(i:Nat)(c:ib):jg:=match P.underlying t with
 |some d=>match d with
  |.struct a=>match a[i]? with
   |some f=>FH c.aP (.gen c) fun x=>.field c.guard c.dst f.offset x
   |none=>.gen c
  |_=>.gen c
 |none=>.gen c
def ajd(P:Program)(q:Call)(c:ib):jg:=match q.callee with
 |.builtin b=>match b with
  |.len=>match q.argTypes[0]? with
   |some t=>match P.underlying t with
    |some d=>match d with
     |.string=>FH c.aP (.gen c) fun x=>.ab_ c.guard c.dst x
     |.slice _=>FH c.aP (.gen c) fun x=>.ab8 c.guard c.dst x
     |_=>.gen c
    |none=>.gen c
   |none=>.gen c
  |_=>.gen c
 |_=>.gen c
def ajb(P:Program)(t:TypeId)(c:ib):jg:=match P.underlying t with
 |some d=>match d with
  |.slice e=>match P.info? e with
   |some a=>Ey c.aP (.gen c) fun x y=>.abJ c.guard c.dst a.size x y
   |none=>.gen c
  |_=>.gen c
 |none=>.gen c
def ajc(P:Program)(t:TypeId)(c:ib):jg:=match P.underlying t with
 |some d=>match P.info? t with
  |some i=>bif vd d then .gen c else FH c.aP (.gen c) fun x=>.Cw c.guard c.dst i.size x
  |none=>.gen c
 |none=>.gen c
def Y5(P:Program)(op:Op)(c:ib):jg:=match op with
 |.move _=>SR c
 |.assign _=>SR c
 |.pick _ _ _=>apF c.aP (.gen c) fun a b e=>.pick c.guard c.dst a b e
 |.binOp b t _ _ _=>ai' P b t c
 |.index _ _ _=>Ey c.aP (.gen c) fun x y=>.index c.guard c.dst x y
 |.fieldAddr t _ i=>aja P t i c
 |.call q=>ajd P q c
 |.nilCheck _=>FH c.aP (.gen c) fun x=>.acP c.guard c.dst x
 |.indexAddr t _ _=>ajb P t c
 |.load t _=>ajc P t c
 |_=>.gen c
theorem KY{c:ib}{f:(S->O)->jg}(h:∀x,c.aP=[x]->(f x).sd=c):(FH c.aP (.gen c) f).sd=c:=by
 cases a:c.aP with
 |nil=>rfl
 |cons x l=>cases l with
  |nil=>exact h x a
  |cons _ _=>rfl
theorem KZ{c:ib}{f:(S->O)->(S->O)->jg}(h:∀x y,c.aP=[x,y]->(f x y).sd=c):(Ey c.aP (.gen c) f).sd=c:=by
 cases a:c.aP with
 |nil=>rfl
 |cons x l=>cases l with
  |nil=>rfl
  |cons y l=>cases l with
   |nil=>exact h x y a
   |cons _ _=>rfl
theorem aF9{c:ib}{f:(S->O)->(S->O)->(S->O)->jg}(h:∀x y af,c.aP=[x,y,af]->(f x y af).sd=c):(apF c.aP (.gen c) f).sd=c:=by
 cases a:c.aP with
 |nil=>rfl
 |cons x l=>cases l with
  |nil=>rfl
  |cons y l=>cases l with
   |nil=>rfl
   |cons af l=>cases l with
    |nil=>exact h x y af a
    |cons _ _=>rfl
theorem tK{c:ib}{d':Option ((S->O)×Bool)}{d:Option Nat}{aP:List (S->O)}{k:yg}(H:c.guard=d')(I:c.dst=d)(b:c.aP=aP)(a:c.k=k):(⟨d',d,aP,k⟩:ib)=c:=by
 subst H I b a;rfl
theorem ax1{c:ib}(h:c.k=.pv (.pure Cy)):(SR c).sd=c:=by
 unfold SR;cases hd:c.dst with
 |none=>rfl
 |some d=>
  refine KY fun x a=>?_;cases an:c.guard with
  |none=>exact tK an hd a h
  |some p=>exact tK an hd a h
theorem ayg{P:Program}{ay:Nat}{ops:Array Oper}{o:Oper}{c:ib}(h:B1 P ay ops o=some c):q2 P o.op=some c.k:=by
 unfold B1 at h;cases hd:NR ay o.dst with
 |false=>rw[hd]at h;simp at h
 |true=>
  rw[hd]at h;simp only[eP]at h;split at h;rename_i d' aP k H I a;cases h;exact a;cases h
theorem ax2{P:Program}{op:Op}{c:ib}(h:q2 P op=some c.k):(Y5 P op c).sd=c:=by
 unfold Y5;split;exact aob;exact aob;simp only[q2,rh,pe,jt,cq]at h;exact aF9 fun x y af a=>tK rfl rfl a h.symm
 ·rename_i b t _ _ _;unfold ai';cases hu:P.underlying t with
  |none=>rfl
  |some d=>
   simp only;split;simp only[q2,rh,pe,NI,hu,jt,cq]at h;split;rename_i m k;exact KZ fun x y a=>tK rfl rfl a (by rw[axr k];exact h.symm);split;exact KZ fun x y a=>tK rfl rfl a h.symm;rfl;simp only[q2,rh,pe,NI,hu,jt,cq]at h;split;exact KZ fun x y a=>tK rfl rfl a h.symm;exact KZ fun x y a=>tK rfl rfl a h.symm;rfl;rfl
 ·rename_i t _ _;simp only[q2,rh,pe,jt]at h;cases hu:P.underlying t with
  |none=>rw[hu]at h;simp at h
  |some u=>rw[hu]at h;cases u<;>simp only[cq,reduceCtorEq]at h;exact KZ fun x y a=>tK rfl rfl a h.symm
 ·rename_i t _ i;unfold aja;cases hu:P.underlying t with
  |none=>rfl
  |some d=>
   simp only;split
   ·rename_i n;cases l:n[i]? with
    |none=>rfl
    |some f=>
     simp only[q2,rh,pe,hu,l,jt]at h;cases hi:P.info? f.type with
     |none=>rw[hi]at h;simp at h
     |some o=>
      rw[hi]at h;simp only at h;by_cases j:o.size≠0;rw[co j]at h;simp only[cq]at h;exact KY fun x a=>tK rfl rfl a h.symm;rw[bs j]at h;simp at h
   rfl
 ·rename_i q;unfold ajd;cases g:q.callee with
  |builtin b=>
   simp only;split
   ·cases ai:q.argTypes[0]? with
    |none=>rfl
    |some t=>
     simp only;cases hu:P.underlying t with
     |none=>rfl
     |some d=>
      simp only;split;simp only[q2,rh,pe,g,jt,NJ,ai,NK,hu,cq]at h;exact KY fun x a=>tK rfl rfl a h.symm;simp only[q2,rh,pe,g,jt,NJ,ai,NK,hu,cq]at h;exact KY fun x a=>tK rfl rfl a h.symm;rfl
   ·rfl
  |_=>rfl
 simp only[q2,rh,pe,jt,cq]at h;exact KY fun x a=>tK rfl rfl a h.symm
 ·rename_i t _ _;unfold ajb;cases hu:P.underlying t with
  |none=>rfl
  |some d=>
   simp only;split
   ·rename_i e;cases hi:P.info? e with
    |none=>rfl
    |some r=>simp only[q2,rh,pe,hu,hi,jt,cq]at h;exact KZ fun x y a=>tK rfl rfl a h.symm
   rfl
 ·rename_i t _;unfold ajc;cases hu:P.underlying t with
  |none=>rfl
  |some d=>
   cases hi:P.info? t with
   |none=>rfl
   |some i=>
    simp only[q2,rh,pe,hu,hi,jt,cq]at h;simp only;cases aH:vd d with
    |true=>rfl
    |false=>exact KY fun x a=>tK rfl rfl a (by rw[←aH];exact h.symm)
 rfl
def JH(P:Program)(ay:Nat)(ops:Array Oper):List Oper->Option (List jg)
 |[]=>some []
 |o::l=>match B1 P ay ops o,JH P ay ops l with
  |some x,some r=>some (Y5 P o.op x::r)
  |_,_=>none
theorem ajk{P:Program}{ay:Nat}{ops:Array Oper}:∀(l:List Oper),tL P ay ops l=(JH P ay ops l).map (List.map jg.sd)
 |[]=>rfl
 |o::l=>by
  simp only[tL,JH,ajk l]
  cases h:B1 P ay ops o with
  |none=>rfl
  |some x=>
   cases JH P ay ops l with
   |none=>rfl
   |some r=>simp[ax2 (ayg h)]
def nJ(P:Program)(ay:Nat):Option Nat->Code->Option wR
 |_,.skip=>some .skip
 |_,.label _=>some .skip
 |_,.exit id=>some (.exit id)
 |_,.ret=>some .ret
 |k,.seq a b=>match nJ P ay k a,nJ P ay (k.map (· +(nV a).length)) b with
  |some x,some y=>some (.seq x y)
  |_,_=>none
 |k,.cond t a b=>match r_ ay P.globals.size t,nJ P ay k a,nJ P ay (k.map (· +(nV a).length)) b with
  |some t,some x,some y=>some (.cond t x y)
  |_,_,_=>none
 |k,.block id a=>match nJ P ay k a with|some x=>some (.block id x)|none=>none
 |k,.loop a=>match nJ P ay k a with|some x=>some (.loop x)|none=>none
 |_,.region _ ops false=>match JH P ay ops ops.toList with
  |some cs=>some (.region cs)
  |none=>some .fail
 |_,.region _ ops true=>match tL P ay ops ops.toList with
  |some cs=>some (.Gj (vh ops ops.toList cs (Hy ops.toList [])) (cs.filter fun c=>amS c.k).length)
  |none=>some .fail
 |some key,.rangeFunc f _ _ _=>match r_ ay P.globals.size f with
  |some d=>some (.range key ay d)
  |none=>none
 |_,_=>some .fail
def arR(P:Program)(ay:Nat)(ops:Array Oper):Bool:=match tL P ay ops ops.toList with
 |some cs=>CG ay ops.toList ((vh ops ops.toList cs (Hy ops.toList [])).map (qa.Bd Gr))&&Nat.beq (vh ops ops.toList cs (Hy ops.toList [])).length cs.length
 |none=>true
def vV(P:Program)(ay:Nat):Code->Bool
 |.seq a b=>vV P ay a&&vV P ay b
 |.cond _ a b=>vV P ay a&&vV P ay b
 |.block _ a=>vV P ay a
 |.loop a=>vV P ay a
 |.region _ ops true=>arR P ay ops
 |_=>true
theorem Gg{P:Program}{ay:Nat}:∀(c:Code) (k:Option Nat),vV P ay c=true->jW P ay k c=(nJ P ay k c).map wR.CI
 |.skip,_,_=>rfl
 |.label _,_,_=>rfl
 |.exit _,_,_=>rfl
 |.ret,_,_=>rfl
 |.seq a b,k,h=>by
  simp only[vV,dQ]at h
  simp only[jW,nJ,Gg a _ h.1,Gg b _ h.2]
  cases nJ P ay k a<;>cases nJ P ay (k.map (· +(nV a).length)) b<;>rfl
 |.cond t a b,k,h=>by
  simp only[vV,dQ]at h
  simp only[jW,nJ,Gg a _ h.1,Gg b _ h.2]
  cases r_ ay P.globals.size t<;>cases nJ P ay k a<;>cases nJ P ay (k.map (· +(nV a).length)) b<;>rfl
 |.block _ a,k,h=>by
  simp only[vV]at h
  simp only[jW,nJ,Gg a _ h]
  cases nJ P ay k a<;>rfl
 |.loop a,k,h=>by
  simp only[vV]at h
  simp only[jW,nJ,Gg a _ h]
  cases nJ P ay k a<;>rfl
 |.region _ ops false,k,_=>by
  simp only[jW,nJ,ajk]
  cases JH P ay ops ops.toList<;>rfl
 |.region _ ops true,k,h=>by
  simp only[vV,arR]at h
  simp only[jW,nJ,SU]
  cases hd:tL P ay ops ops.toList with
  |none=>rfl
  |some cs=>rw[hd]at h;simp only at h;simp only[h,eP];rfl
 |.rangeFunc f _ _ _,some key,_=>by
  simp only[jW,nJ]
  cases r_ ay P.globals.size f<;>rfl
 |.rangeFunc f _ _ _,none,_=>by simp only[jW,nJ];rfl
 |.scope _,k,_=>by cases k<;>rfl
 |.goto _,k,_=>by cases k<;>rfl
 |.refuse _,k,_=>by cases k<;>rfl
structure MK where
 ay:Nat
 rs:List sw
 c:wR
def ajf(P:Program)(f:FuncId)(fn:Func):Option MK:=match fn.body with
 |some body=>bif (fn.name != "runtime.NumGoroutine")&&Nat.ble fn.ntmps 256&&Nat.ble (nV body).length 64 then
   match B2 P fn.ntmps fn.results.toList,nJ P fn.ntmps (some (keyOf f)) body with
   |some rs,some c=>some ⟨fn.ntmps,rs,c⟩
   |_,_=>none
  else none
 |none=>none
def JG(P:Program)(fY:Nat->Option Func)(f:FuncId):Option MK:=match fY f with
 |some fn=>ajf P f fn
 |none=>none
def VE(P:Program)(fn:Func):Bool:=match fn.body with
 |some body=>vV P fn.ntmps body
 |none=>true
def M0(P:Program)(fY:Nat->Option Func):Prop:=∀f fn,fY f=some fn->P.funcs[f]? =some fn/\VE P fn=true
theorem ajg{P:Program}{fY:Nat->Option Func}(ai:M0 P fY){f:FuncId}{d:MK}(h:JG P fY f=some d):JF P f=some ⟨d.ay,d.rs,d.c.CI⟩:=by
 unfold JG at h;cases b:fY f with
 |none=>rw[b]at h;cases h
 |some fn=>
  rw[b]at h;simp only at h;obtain⟨H,a⟩:=ai f fn b;unfold ajf at h;unfold VE at a;unfold JF;rw[H];simp only;cases A:fn.body with
  |none=>rw[A]at h;cases h
  |some body=>
   rw[A]at h a;simp only at h a⊢;cases g:((fn.name != "runtime.NumGoroutine")&&Nat.ble fn.ntmps 256&&Nat.ble (nV body).length 64)with
   |false=>rw[g]at h;simp at h
   |true=>
    rw[g]at h;simp only[eP]at h⊢;rw[Gg body _ a];cases i:B2 P fn.ntmps fn.results.toList with
    |none=>rw[i]at h;simp at h
    |some rs=>
     rw[i]at h;cases e:nJ P fn.ntmps (some (keyOf f)) body with
     |none=>rw[e]at h;simp at h
     |some c=>rw[e]at h;simp only[cq]at h;subst h;rfl
noncomputable def S'(ay:Nat)(rs:List sw)(F:gH->ed)(args:List O)(h:aw):Option (O×aw):=
 @Bool.rec (fun _=>Option (O×aw)) none (@ed.rec (fun _=>Option (O×aw)) none (fun x=>DG rs x) (fun _ _=>none) (fun x=>DG rs x) (F ⟨xC args 0 bP,h,[]⟩)) (Nat.ble args.length ay)
theorem aj1{ay:Nat}{rs:List sw}{F:gH->ed}{c:ko}(b:∀x r,(F x).jr=some r->c x=some r){args:List O}{h:aw}{r:O×aw}(e:S' ay rs F args h=some r):DI ay rs c args h=some r:=by
 unfold S' at e;unfold DI;cases A:Nat.ble args ay with
 |false=>rw[A]at e;cases e
 |true=>
  rw[A]at e;simp only[eP];cases a:F ⟨xC args 0 bP,h,[]⟩with
  |fail=>rw[a]at e;cases e
  |il y=>rw[a]at e;rw[b _ (.il,y) (by rw[a];rfl)];exact e
  |exit id y=>rw[a]at e;cases e
  |ret y=>rw[a]at e;rw[b _ (.ret,y) (by rw[a];rfl)];exact e
noncomputable def iF(P:Program)(ext:C7)(fY:Nat->Option Func)(n:Nat):jE:=
 @Nat.rec (fun _=>jE) Gr (fun n E=>{
  call:=fun f args h=> @Option.rec _ (fun _=>Option (O×aw)) (@Option.rec MK (fun _=>Option (O×aw)) none (fun d=>S' d.ay d.rs (adG E n d.c) args h) (JG P fY f)) (fun F=>F args h) (ext f)
  yield:=VZ (UF P E n)}) n
section
variable {P:Program} {ρ:cd}
variable{f:FuncId}
theorem nw.mono{F e:List O->aw->Option (O×aw)}(h:nw P ρ f F)(an:∀args h r,e args h=some r->F args h=some r):nw P ρ f e:=
 fun σ args ag v g cs w a b c d=>h σ args ag v g cs w a b c (an _ _ _ d)
theorem ajG(ext:C7)(fY:Nat->Option Func)(n:Nat):iF P ext fY (n+1)={
 call:=fun f args h=> @Option.rec _ (fun _=>Option (O×aw)) (@Option.rec MK (fun _=>Option (O×aw)) none (fun d=>S' d.ay d.rs (adG (iF P ext fY n) n d.c) args h) (JG P fY f)) (fun F=>F args h) (ext f)
 yield:=VZ (UF P (iF P ext fY n) n)}:=rfl
theorem Zl(a:P.follows .mixedOrders=true)(c:ρ.pY=ni P){ext:C7}{fY:Nat->Option Func}(ai:M0 P fY)(g:∀f F,ext f=some F->nw P ρ f F):∀n,uO P ρ (iF P ext fY n)
 |0=>⟨fun f=>(by intro σ args h v i cs w _ _ _ J;exact absurd J (by rintro⟨⟩)),(by intro σ b args h v i cs w p _ _ _ _ J;exact absurd J (by rintro⟨⟩))⟩
 |n+1=>by
  have j:=Zl a c ai g n
  rw[ajG]
  refine⟨fun f=>?_,aLR (aD1 a c j n)⟩
  simp only
  cases aO:ext f with
  |some F=>exact g f F aO
  |none=>
   cases k:JG P fY f with
   |some d=>exact(ax' a c j (ajg ai k) n).mono fun args h r e=>aj1 (EH d.c) e
   |none=>intro σ args h v i cs w _ _ _ J;cases J
theorem NZ(b:P.follows .mixedOrders=true)(i:ρ.pY=ni P){ext:C7}{fY:Nat->Option Func}(ai:M0 P fY)(j:∀f F,ext f=some F->nw P ρ f F)(l:ext f=none){n:Nat}{σ:b6}{args:List O}{h:aw}{v:O}{g:aw}{cs:List Value}{w:World}(an:kA P σ)(m:bY ρ σ args=some cs)(k:cZ ρ σ h w) (J:(iF P ext fY n).call f args h=some (v,g)):Calls P f cs.toArray w fun e w'=>∃c,e=.returned c/\qT ρ σ h w v g c w':=by
 cases n with
 |zero=>cases J
 |succ n=>
  rw[ajG]at J;simp only[l]at J;cases a:JG P fY f with
  |none=>rw[a]at J;cases J
  |some d=>rw[a]at J;exact ax_ b i (Zl b i ai j n) (ajg ai a) n an m k (aj1 (EH d.c) J)
end
end Go.cv
namespace Go.cv
inductive kP where
 |e
 |n (k:Nat) (fn:Func) (l r:kP)
noncomputable def kP.find(t:kP)(f:Nat):Option Func:= @kP.rec (fun _=>Option Func) none (fun k fn _ _ a b=> @Bool.rec (fun _=>Option Func) (@Bool.rec (fun _=>Option Func) b a (Nat.blt f k)) (some fn) (Nat.beq f k)) t
def kP.Dl(P:Program):kP->Prop
 |.e=>True
 |.n k fn l r=>(P.funcs[k]? =some fn/\VE P fn=true)/\l.Dl P/\r.Dl P
theorem kP.q4{P:Program}:∀{t:kP},t.Dl P->M0 P t.find
 |.e,_,f,fn,h=>by cases h
 |.n k b l r,⟨H,I,c⟩,f,fn,h=>by
  have h: @Bool.rec (fun _=>Option Func) (@Bool.rec (fun _=>Option Func) (r.find f) (l.find f) (Nat.blt f k)) (some b) (Nat.beq f k)=some fn:=h
  cases A:Nat.beq f k with
  |true=>
   rw[A]at h
   have e:=gx A
   subst e
   cases h
   exact H
  |false=>
   rw[A]at h
   cases a:Nat.blt f k with
   |true=>rw[a]at h;exact kP.q4 I f fn h
   |false=>rw[a]at h;exact kP.q4 c f fn h
end Go.cv
namespace Go.cv
def JO:List (O×O×Nat)->List (O×O×Nat)->Bool
 |[],[]=>true
 |a::l,b::m=>O.beq a.1 b.1&&O.beq a.2.1 b.2.1&&Nat.beq a.2.2 b.2.2&&JO l m
 |_,_=>false
theorem ajB:∀{a b:List (O×O×Nat)},JO a b=true->a=b
 |[],[],_=>rfl
 |(x,y,af)::l,(f,g,e)::m,h=>by
  simp only[JO,dQ]at h
  obtain⟨⟨⟨H,I⟩,d⟩,c⟩:=h
  rw[O.beq_eq H,O.beq_eq I,gx d,ajB c]
 |[],_::_,h=>by simp[JO]at h
 |_::_,[],h=>by simp[JO]at h
def eC.same:eC->eC->Bool
 |.cells e vs t w,.cells b a h w'=>Nat.beq e b&&O.pI vs a&&(t==h)&&(w==w')
 |.map f c,.map d g=>JO f d&&Nat.beq c g
 |.aE e vs,.aE b a=>Nat.beq e b&&O.pI vs a
 |_,_=>false
theorem eC.aIc{a b:eC}(h:a.same b=true):a=b:=by
 cases a<;>cases b<;>simp only[eC.same,dQ,qM]at h;obtain⟨⟨⟨H,I⟩,d⟩,c⟩:=h;rw[gx H,O.tE I,eq_of_beq d,eq_of_beq c];obtain⟨H,I⟩:=h;rw[ajB H,gx I];obtain⟨H,I⟩:=h;rw[gx H,O.tE I]
abbrev l8:=List (Nat×eC)
def rY(h:aw):l8->Bool
 |[]=>true
 |p::l=>(match h.cR p.1 with|some y=>y.same p.2|none=>false)&&rY h l
theorem OD{h:aw}:∀{l:l8},rY h l=true->∀{b:Nat} {x:eC},(b,x)∈l->h.cR b=some x
 |[],_,b,x,a=>by cases a
 |p::l,H,b,x,a=>by
  simp only[rY,dQ]at H
  rcases gl.1 a with e|a
  ·cases e
   cases an:h.cR b with
   |none=>rw[an]at H;simp at H
   |some y=>rw[an]at H;rw[eC.aIc H.1]
  ·exact OD H.2 a
def pu(l:l8):Bool:=l.all fun p=>Nat.blt p.1 eB
theorem adU{l:l8}(h:pu l=true){p:Nat×eC}(ag:p∈l):p.1<eB:=by
 simpa using h6.1 h p ag
def hl(h:aw):l8->aw
 |[]=>h
 |p::l=>hl (h.c' p.1 (some p.2)) l
def Gk(h:aw):l8->aw
 |[]=>h
 |p::l=>Gk (h.c' p.1 none) l
theorem Vb:∀{l:l8} {h:aw} {b:Nat} {x:eC},(∀p∈l,p.1<eB)->(hl h l).cR b=some x->(b,x)∈l∨h.cR b=some x
 |[],h,b,x,_,e=>.inr e
 |p::l,h,b,x,a,e=>by
  rcases Vb (fun q c=>a q (jD _ c)) e with H|H
  ·exact .inl (jD _ H)
  ·rw[aw.vp _ _ _ _ (a p (qP ..))]at H
   by_cases aj:b=p.1
   ·rw[co aj]at H
    cases H
    subst aj
    exact .inl (qP ..)
   ·rw[bs aj]at H
    exact .inr H
theorem ajo:∀{l:l8} {h:aw} {b:Nat} {x:eC},(∀p∈l,p.1<eB)->(Gk h l).cR b=some x->h.cR b=some x/\∀p∈l,p.1≠b
 |[],h,b,x,_,e=>⟨e,fun p ag=>by cases ag⟩
 |p::l,h,b,x,c,e=>by
  obtain⟨H,I⟩:=ajo (fun q a=>c q (jD _ a)) e
  rw[aw.vp _ _ _ _ (c p (qP ..))]at H
  by_cases aj:b=p.1
  ·rw[co aj]at H;cases H
  ·rw[bs aj]at H
   refine⟨H,fun q a=>?_⟩
   rcases gl.1 a with rfl|a
   ·exact h8 aj
   ·exact I q a
structure qk where
 args:List O
 pre:l8
 nx:Nat
 v:O
 post:l8
 Ho:Nat
def qk.heap(m:qk):aw:=hl ⟨.e,m.nx⟩ m.pre
def PP(m:qk)(args:List O)(h:aw):Option (O×aw):=
 bif O.pI args m.args&&Nat.beq h.nx m.nx&&rY h m.pre then some (m.v,⟨(hl (Gk h m.pre) m.post).t,m.Ho⟩)else none
def xu(m:qk)(r:Option (O×aw)):Bool:=match r with
 |some (v,h)=>O.beq v m.v&&Nat.ble h.nx m.Ho&&rY h m.post&&pu m.pre&&pu m.post
 |none=>false
theorem HA:∀{l:l8} {h:aw},(hl h l).nx=h.nx
 |[],_=>rfl
 |p::l,h=>by rw[hl,HA];rfl
theorem kn.some{ρ:cd}{σ:b6}{p:nB}{o:Option Obj}{x:eC}(h:kn ρ σ p o x):∃y,o=some y:=by
 cases x with
 |cells=>obtain⟨arr,bb,rfl,_⟩:=h;exact⟨_,rfl⟩
 |map=>obtain⟨_,b,rfl,_⟩:=h;exact⟨_,rfl⟩
 |mapIter=>obtain⟨_,q,_,rfl⟩:=h;exact⟨_,rfl⟩
 |loop=>obtain⟨_,a,q,l,_,_,_,rfl⟩:=h;exact⟨_,rfl⟩
 |deferred=>obtain⟨_,rfl⟩:=h;exact⟨_,rfl⟩
 |aE=>obtain⟨cs,_,rfl,_⟩:=h;exact⟨_,rfl⟩
variable{w:World}
theorem tz.mono{P:Program}{f:Frame}{R a:Value->World->Prop}(h:tz P f w R)(b:∀v w,R v w->a v w):tz P f w a:=
 fun c cs=>let ⟨v,w',q,s⟩:=h c cs;⟨v,w',b _ _ q,s⟩
theorem qT.frame{ρ:cd}{σ:b6}{h ag H:aw}{w':World}{v:O}{c:Value}{pre post:l8}{Ho:Nat}(z:cZ ρ σ h w)(S:∀b x,ag.cR b=some x->(b,x)∈pre)(Q:∀b x,(b,x)∈pre->h.cR b=some x)(T:ag.nx=h.nx) (U:∀p∈pre,p.1<eB)(Y:∀p∈post,p.1<eB)(s:∀b x,(b,x)∈post->H.cR b=some x)(N:H.nx<=Ho) (aH:qT ρ σ ag w v H c w'):qT ρ σ h w v ⟨(hl (Gk h pre) post).t,Ho⟩ c w':=by
 obtain⟨D,J,M,g⟩:=aH;have F:∀b x,(⟨(hl (Gk h pre) post).t,Ho⟩:aw).cR b=some x->(b,x)∈post∨(h.cR b=some x/\∀p∈pre,p.1≠b):=fun b x A=>by
  rcases Vb Y (h:=Gk h pre) (b:=b) (x:=x) A with I|I;exact .inl I;exact .inr (ajo U I)
 have out:∀b x p,h.cR b=some x->(∀q∈pre,q.1≠b)->σ b=some p->¬lw σ ag p.aY:=fun b x p A j d ⟨B,L,dy,t,o,K⟩=>by have R:=S B L t;have C:b≠B:=fun e=>j _ R (by simp[e]);exact z.inj b B x L p dy A (Q B L R) d o C K.symm
 have lt:∀b x p,h.cR b=some x->σ b=some p->p.aY<w.heap.size/\kn ρ σ p w.heap[p.aY]? x:=fun b x p A d=>by obtain⟨q,j,E⟩:=z.aY b x A;obtain rfl:p=q:=gQ (d.symm.trans j);obtain⟨y,V⟩:=E.some;exact⟨(g6.1 V).1,E⟩
 have sub:∀r,lw σ ag r->lw σ h r:=fun r ⟨b,x,p,t,o,K⟩=>⟨b,x,p,Q b x (S b x t),o,K⟩;have old:∀b x,h.cR b=some x->∃p,σ b=some p/\D b=some p:=fun b x A=>by obtain⟨p,P,_⟩:=z.aY b x A;exact⟨p,P,g.ext b p P⟩
 refine⟨D,J,⟨fun b x A=>?_,fun b a x f p i A fj d n C=>?_,fun b A=>M.j9 b (cO N A)⟩,⟨g.ext,fun b I k=>by rw[←T];exact g.ee b I k,by rw[←T];exact cO g.nx N,g.size,fun r X Z=>g.kept r X fun G=>Z (sub r G),fun r G=>?_,g.os,g.output,g.tape⟩⟩;rcases F b x A with I|⟨I,k⟩;exact M.aY b x (s b x I);obtain⟨p,d,n⟩:=old b x I;obtain⟨au,E⟩:=lt b x p I d;refine⟨p,n,?_⟩;rw[g.kept p.aY au (out b x p I k d)];exact E.ext g.ext
 ·
  have mixed:∀b a x f p i,(b,x)∈post->h.cR a=some f->(∀q∈pre,q.1≠a)->D b=some p->D a=some i->p.aY≠i.aY:=fun b a x f p i I k m d n e=>by
   obtain⟨q,j,u⟩:=old a f k;obtain rfl:i=q:=gQ (n.symm.trans u);obtain⟨au,_⟩:=lt a f i k j;rcases g.p2 p.aY ⟨b,x,p,s b x I,d,rfl⟩with l|l
   rw[e]at l;omega;rw[e]at l;exact out a f i k m j l
  rcases F b x A with I|⟨I,k⟩<;>rcases F a f fj with m|⟨m,l⟩
  exact M.inj b a x f p i (s b x I) (s a f m) d n C;exact mixed b a x f p i I m l d n;exact h8 (mixed a b f x i p m I k n d);obtain⟨q,j,u⟩:=old b x I;obtain⟨cr,nQ,W⟩:=old a f m;obtain rfl:p=q:=gQ (d.symm.trans u);obtain rfl:i=cr:=gQ (n.symm.trans W);exact z.inj b a x f p i I m j nQ C
 ·obtain⟨b,x,p,t,o,rfl⟩:=G;rcases F b x t with I|⟨I,k⟩
  ·rcases g.p2 p.aY ⟨b,x,p,s b x I,o,rfl⟩with l|l
   exact .inl l;exact .inr (sub _ l)
  obtain⟨q,j,u⟩:=old b x I;obtain rfl:p=q:=gQ (o.symm.trans u);exact .inr ⟨b,x,p,I,j,rfl⟩
theorem AV{P:Program}{ρ:cd}{f:FuncId}{call:List O->aw->Option (O×aw)}(y:nw P ρ f call){m:qk}(a:xu m (call m.args m.heap)=true):nw P ρ f (PP m):=by
 intro σ args h v K cs w an F d J;unfold PP at J;cases A:(O.pI args m.args&&Nat.beq h.nx m.nx&&rY h m.pre)with
 |false=>rw[A]at J;simp at J
 |true=>
  rw[A]at J;simp only[eP,cq,iA]at J;obtain⟨rfl,rfl⟩:=J;simp only[dQ]at A;obtain⟨⟨H,I⟩,C⟩:=A;have H:=O.tE H;subst H;have I:=gx I;unfold xu at a;cases k:call m.args m.heap with
  |none=>rw[k]at a;simp at a
  |some r=>
   obtain⟨L,o⟩:=r;rw[k]at a;simp only[dQ]at a;obtain⟨⟨⟨⟨b4,dF⟩,gL⟩,G⟩,u⟩:=a;have b4:=O.beq_eq b4;subst b4;have q:=fun p ag=>adU G (p:=p) ag;have B:=fun p ag=>adU u (p:=p) ag;have i:∀b x,m.heap.cR b=some x->(b,x)∈m.pre:=fun b x A=>by
    rcases Vb q A with e|e;exact e;simp[aw.cR,T.cR]at e
   have g:∀b x,(b,x)∈m.pre->h.cR b=some x:=fun b x A=>OD C A;have t:m.heap.nx=h.nx:=by unfold qk.heap;rw[HA];exact I.symm
   have z:cZ ρ σ m.heap w:=⟨fun b x A=>d.aY b x (g b x (i b x A)),fun b l x n p D A E=>d.inj b l x n p D (g b x (i b x A)) (g l n (i l n E)),fun b A=>d.j9 b (by rw[←t];exact A)⟩;have s:∀c w',qT ρ σ m.heap w m.v o c w'->qT ρ σ h w m.v ⟨(hl (Gk h m.pre) m.post).t,m.Ho⟩ c w':=fun c w' aH=>qT.frame d i g t q B (fun b x A=>OD gL A) (hH dF) aH;rcases y σ m.args m.heap m.v o cs w an F z k with⟨c,w',aj,j⟩|⟨aj,j⟩
   exact .inl ⟨c,w',aj,s c w' j⟩;exact .inr ⟨aj,j.mono s⟩
def Hj:List qk->List O->aw->Option (O×aw)
 |[],_,_=>none
 |m::l,args,h=>match PP m args h with
  |some r=>some r
  |none=>Hj l args h
theorem PQ{P:Program}{ρ:cd}{f:FuncId}:∀{l:List qk},(∀m∈l,nw P ρ f (PP m))->nw P ρ f (Hj l)
 |[],_=>by intro σ args h v d cs w _ _ _ J;cases J
 |m::l,b=>by
  intro σ args h v d cs w an e c J
  simp only[Hj]at J
  cases a:PP m args h with
  |some r=>rw[a]at J;cases J;exact b m (qP ..) σ args h _ _ cs w an e c a
  |none=>rw[a]at J;exact PQ (fun q g=>b q (jD _ g)) σ args h v d cs w an e c J
end Go.cv
namespace Go.cv
open Go.Proofs.Tryz Go.RowKit
section
variable {P:Program} {ρ:cd}
variable{w:World}
theorem cZ.UG{σ:b6}{h:aw}(r:cZ ρ σ h w){b:Nat}{x:eC}{p:nB}(A:h.cR b=some x)(ag:σ b=some p):p.aY<w.heap.size:=by
 obtain⟨q,c,d⟩:=r.aY b x A;obtain rfl:p=q:=gQ (ag.symm.trans c);obtain⟨y,a⟩:=d.some;exact(g6.1 a).1
variable{w':World}
theorem cZ.K{σ:b6}{h:aw}(r:cZ ρ σ h w)(A:Below w w w'):cZ ρ σ h w':=
 ⟨fun b x a=>by
  obtain⟨p,ag,c⟩:=r.aY b x a
  exact⟨p,ag,by rw[A.block p.aY (r.UG a ag)];exact c⟩,r.inj,r.j9⟩
theorem jF.K{σ:b6}{h:aw}(A:Below w w w'):jF σ h w σ h w':=
 ⟨.refl _,fun _ a b=>(b a).elim,aZ _,A.size,fun r c _=>A.block r c,fun _ d=>.inr d,A.os,A.output,A.tape⟩
variable{f:FuncId}{cs:Array Value}
theorem tz.hP{R:Value->World->Prop}(h:Calls P f cs w fun e w'=>∃v,e=.returned v/\R v w'):tz P (Frame.enter P f cs .normal) w R:=tz.aFx h
theorem ayF{fn:Func}(b:P.funcs[f]? =some fn)(a:fn.name≠ "runtime.NumGoroutine")(A:fn.body.isSome=true):(callFunc f cs).run P w=.ok (.enter f cs) w:=by
 obtain⟨body,A⟩:=atc.1 A;simp[callFunc,b,a,A]
end
end Go.cv
namespace Go.cv
open Go.RowKit
section
variable {P:Program}
def eC.Us:eC->Bool
 |.aE _ _=>true
 |_=>false
def Dw(l:l8):Bool:=l.all fun p=>p.2.Us
variable{nx:Nat}
theorem A2{l:l8}(a:pu l=true){b:Nat}{x:eC}(h:(hl ⟨.e,nx⟩ l).cR b=some x):(b,x)∈l:=by
 rcases Vb (fun p ag=>adU a ag) h with h|h;exact h;simp[aw.cR,T.cR]at h
variable{ρ:cd}{w:World}
theorem aHW{σ j:b6}{l:l8}{d:aw}{w':World}(n:pu l=true)(r:Dw l=true)(aH:rY d l=true) (s:cZ ρ σ (hl ⟨.e,nx⟩ l) w)(y:cZ ρ j d w')(a:jF σ (hl ⟨.e,nx⟩ l) w j d w'):Below w w w':=by
 refine⟨a.os,a.tape,a.output,a.size,fun k m=>?_⟩;by_cases h:lw σ (hl ⟨.e,nx⟩ l) k
 ·obtain⟨b,x,p,f,i,rfl⟩:=h;have g:=A2 n f;have c:x.Us=true:=h6.1 r _ g;cases x with
  |aE e vs=>obtain⟨q,o,cs,_,I,_⟩:=s.aY b _ f;obtain rfl:p=q:=gQ (i.symm.trans o);obtain⟨t,u,A,_,z,_⟩:=y.aY b _ (OD aH g);obtain rfl:p=t:=gQ ((a.ext b p i).symm.trans u);rw[I,z]
  |cells=>cases c
  |map=>cases c
  |mapIter=>cases c
  |loop=>cases c
  |deferred=>cases c
 exact a.kept k m h
structure au4 (ρ:cd) (σ:b6) (w:World) (v:O) (bc:aw) (c:Value) (cB:b6) (w':World):Prop where
 v:aN ρ cB v=some c
 h:cZ ρ cB bc w'
 ext:mw σ cB
 b:Below w.heap.size w w'
theorem A7(o:P.follows .mixedOrders=true)(q:ρ.pY=ni P){ext:C7}{fY:Nat->Option Func}(ai:M0 P fY)(j:∀f F,ext f=some F->nw P ρ f F){f:FuncId}(p:ext f=none){n:Nat}{σ:b6}{args:List O}{l:l8}{v:O}{a:aw}{cs:List Value}(an:kA P σ)(r:bY ρ σ args=some cs)(k:pu l=true)(m:Dw l=true)
  (d:cZ ρ σ (hl ⟨.e,nx⟩ l) w)(J:(iF P ext fY n).call f args (hl ⟨.e,nx⟩ l)=some (v,a))(aH:rY a l=true):
  Calls P f cs.toArray w fun e w'=>∃c b,e=.returned c/\au4 ρ σ w v a c b w':=
 (NZ o q ai j p an r d J).mono fun e w' ⟨c,aO,b,i,h,g⟩=>⟨c,b,aO,i,h,g.ext,aHW k m aH d h g⟩
mutual
theorem JB{ρ ρ':cd}(h:ρ.val=ρ'.val)(σ:b6):∀v:O,aN ρ σ v=aN ρ' σ v
 |.int .. =>by simp[aN]
 |.bool _=>by simp[aN]
 |.str _=>by simp[aN]
 |.iZ .. =>by simp[aN]
 |.rn=>by simp[aN]
 |.slice .. =>by simp[aN]
 |.dH=>by simp[aN]
 |.map _=>by simp[aN]
 |.Eu=>by simp[aN]
 |.fn f a c=>by simp[aN,JA h σ a,JA h σ c]
 |.xS _=>by simp[aN]
 |.AW=>by simp[aN]
 |.iface t v=>by simp[aN,JB h σ v]
 |.Hm=>by simp[aN]
 |.agg l=>by simp[aN,JA h σ l]
 |.tup l=>by simp[aN,JA h σ l]
 |.sym i=>by simp[aN,h]
 |.lA .. =>by simp[aN]
theorem JA{ρ ρ':cd}(h:ρ.val=ρ'.val)(σ:b6):∀l:List O,bY ρ σ l=bY ρ' σ l
 |[]=>by simp[bY]
 |v::l=>by simp[bY,JB h σ v,JA h σ l]
end
def Lc(h:aw)(cp:l8):Bool:=cp.all fun p=>match p.2 with
 |.aE e vs=>(match h.cR p.1 with|some (.cells b a _ _)=>Nat.beq e b&&O.pI vs a|_=>false)
 |_=>false
theorem A6{h:aw}{cp:l8}(a:Lc h cp=true){b:Nat}{x:eC}(c:(b,x)∈cp):∃e vs t wr,x=.aE e vs/\h.cR b=some (.cells e vs t wr):=by
 have:=h6.1 a _ c;cases x with
 |aE e vs=>
  simp only at this;split at this;rename_i f d t wr an;simp only[dQ]at this;refine⟨e,vs,t,wr,rfl,?_⟩;rw[an,gx this.1,O.tE this.2]
  ·cases this
 |cells=>cases this
 |map=>cases this
 |mapIter=>cases this
 |loop=>cases this
 |deferred=>cases this
def m7(w:World)(b:Nat):Array Value:=match w.heap[b]? with|some (.cells arr _ _)=>arr|_=>#[]
def qq(w:World)(b:Nat):Nat×Nat:=match w.heap[b]? with|some (.cells _ _ bb)=>bb|_=>(0,0)
def cd.at(ρ:cd)(w:World):cd:={ρ with Bc:=m7 w,bb:=qq w}
theorem adw{σ:b6}{p:nB}{e:TypeId}{vs:List O}{t wr:Bool}(h:kn ρ σ p w.heap[p.aY]? (.cells e vs t wr)):kn (ρ.at w) σ p w.heap[p.aY]? (.aE e vs):=by
 obtain⟨arr,bb,H,_,_,_,⟨cs,I,b⟩,_⟩:=h;have aj:m7 w p.aY=arr:=by simp[m7,H]
 have a:qq w p.aY=bb:=by simp[qq,H]
 refine⟨cs,?_,?_,?_⟩;rw[←I];exact JA (ρ:=ρ.at w) (ρ':=ρ) rfl σ vs;show w.heap[p.aY]? =some (Obj.cells (m7 w p.aY) e (qq w p.aY));rw[aj,a];exact H;show ∀i,i<vs.length->(m7 w p.aY)[p.del+i]? =cs[i]?;rw[aj];exact b
theorem cZ.aE{σ:b6}{h:aw}(d:cZ ρ σ h w){cp:l8}(a:pu cp=true)(c:Lc h cp=true):cZ (ρ.at w) σ (hl ⟨.e,h.nx⟩ cp) w:=by
 refine⟨fun b x A=>?_,fun b j x q p g A m ag l i=>?_,fun b A=>d.j9 b (by rw[HA]at A;exact A)⟩;obtain⟨e,vs,t,wr,rfl,an⟩:=A6 c (A2 a A);obtain⟨p,ag,k⟩:=d.aY b _ an;exact⟨p,ag,adw k⟩;obtain⟨e,vs,t,wr,rfl,an⟩:=A6 c (A2 a A);obtain⟨r,n,s,o,rfl,f⟩:=A6 c (A2 a m);exact d.inj b j _ _ p g an f ag l i
end
end Go.cv
