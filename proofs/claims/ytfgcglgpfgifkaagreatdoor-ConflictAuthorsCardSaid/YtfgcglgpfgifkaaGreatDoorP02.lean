/- ConflictAuthors. -/
import Derived.Test.YtfgcglgpfgifkaaGreatDoorP01
set_option linter.all false
set_option maxRecDepth 100000
set_option maxHeartbeats 16000000
namespace Go.ch
section
variable {P:Program} {ρ:b4}
def sr(n:Nat):Option K:=uw n fun n=>some (.int .i64 (.ofNat n))
theorem zW(n:Nat):sr n=some (.int .i64 (.ofNat n)):=by simp[sr,yr]
theorem J7{o:Oper}{c:Call}{b:Builtin}{a:Array Value}{w w':World}{v:Value}(h:o.op=.call c)(d:c.callee=.builtin b)(A:∀cs,(builtin b c.argTypes o.type cs (c.args.map (dT a))).run P w=.ok (.value v) w'): (execOp (dT a) o).run P w=.ok (.value v) w':=by
 simp only[execOp,h,resolve,d,d',eQ,dX,invoke];exact A _
theorem wT{o:Oper}{c:Call}{b:Builtin}{a:Array Value}(h:o.op=.call c)(d:c.callee=.builtin b):fm o a=(c.args.map (dT a)).toList:=by
 simp[fm,h,Op.operands,Call.operands,d]
theorem Yu{o:Oper}{c:Call}{a:Array Value}{w:World}(h:o.op=.call c)(L:c.callee=.builtin .len){n:Nat}{u:Value}(O:(c.args.map (dT a)).toList=[u])(Y:(Builtin.len_ c.argTypes o.type #[u]).run P w=.ok (goInt n) w): (execOp (dT a) o).run P w=.ok (.value (.int .i64 (.ofNat n))) w:=by
 exact aja
def Lw:List K->Option K
 |[.str s]=>sr s.length
 |_=>none
def Lv:List K->Option K
 |[.slice _ _ n _ _]=>sr n
 |[.bS]=>sr 0
 |[.jx _ _ _ _]=>sr 0
 |_=>none
theorem axT{o:Oper}{c:Call}{t:TypeId}(h:o.op=.call c)(b:c.callee=.builtin .len)(ah:c.argTypes[0]? =some t)(hu:P.underlying t=some .string):ku P ρ o Lw:=by
 intro σ s a w v g d J;rw[wT h b]at d;unfold Lw at J;split at J
 ·rw[zW]at J;cases J;obtain⟨x,f,e⟩:=iW d;obtain⟨ok,rfl⟩:=qd f;refine⟨_,rfl,Yu h b e ?_⟩;simp[Builtin.len_,ah,gF hu,Jm]
 ·cases J
theorem axR{o:Oper}{c:Call}{t e:TypeId}(h:o.op=.call c)(L:c.callee=.builtin .len)(ah:c.argTypes[0]? =some t)(hu:P.underlying t=some (.slice e)):ku P ρ o Lv:=by
 intro σ s a w v f d J;rw[wT h L]at d;unfold Lv at J;split at J
 ·rw[zW]at J;cases J;obtain⟨x,b,O⟩:=iW d;obtain⟨p,ag,rfl⟩:=xz b;exact P3
 ·rw[zW]at J;cases J;obtain⟨x,b,O⟩:=iW d;simp only[aE,cb]at b;subst b;exact P3
 ·rw[zW]at J;cases J;obtain⟨x,b,O⟩:=iW d;simp only[aE,ig]at b;obtain⟨p,ag,rfl⟩:=b;exact P3
 ·cases J
def GW:List K->Option K
 |[.str s,.int _ (.ofNat m)]=>match s[m]? with
  |some b=>uw b fun b=>some (.int .u8 (.ofNat b))
  |none=>none
 |_=>none
theorem azt{s:List Nat}(h:jn s){m b:Nat}(A:s[m]? =some b):b<256:=by
 unfold jn at h;rw[hs]at h;simpa using h b (Aw A)
theorem arm{s:List Nat}(h:jn s){m b:Nat}(A:s[m]? =some b):∃x,(fz s)[m]? =some x/\x.toNat=b:=by
 have aq:m<s.length:=(j2.1 A).1;have d:=azt h A;have e:(UInt8.ofNat b).toNat=b:=by rw[Rz];exact ry d
 refine⟨UInt8.ofNat b,?_,e⟩;have a:m<(fz s).size:=by rw[Jm];exact aq
 rw[getElem?_pos (fz s) m a];have:(fz s)[m]=(fz s).data[m]'a:=rfl;rw[this];have c:s[m]=b:=(j2.1 A).2;simp[fz,c]
theorem aw6{o:Oper}{t:TypeId}{x y:Operand}(h:o.op=.index t x y)(hu:P.underlying t=some .string):ku P ρ o GW:=by
 intro σ s a w v n g J;unfold GW at J;split at J
 ·rename_i str k m;split at J
  ·rename_i b A;simp only[yr,cb]at J;subst J;obtain⟨c,d,f,hd,e⟩:=j6 g;simp[fm,h,Op.operands]at e;obtain⟨ok,rfl⟩:=qd f;obtain rfl:=m0 hd;obtain⟨b2,cL⟩:=e;obtain⟨ae,l,j⟩:=arm ok A;refine⟨.int .u8 (.ofNat b),rfl,?_⟩;have i:(Instr.index t (.string (fz str)) (.int k (Int.ofNat m))).run P w=.ok (.int .u8 (Int.ofNat b)) w:=by simp[Instr.index,asIntOf,gF hu,l,j]
   simp only[execOp,h,b2,cL,d',i,dX,eQ]
  ·cases J
 ·cases J
def T5(k:IntKind):List K->Option K
 |[.int _ n]=>sk k n
 |_=>none
theorem ar1{o:Oper}{s d:TypeId}{x:Operand}(h:o.op=.convert s d x){g:TypeDesc}{k:IntKind}(i:P.underlying s=some g)(hd:P.underlying d=some (.int k)):ku P ρ o (T5 k):=by
 intro σ l a w v j f J;unfold T5 at J;split at J
 ·rw[Lj]at J;cases J;obtain⟨c,e,b⟩:=iW f;simp[fm,h,Op.operands]at b;obtain rfl:=m0 e;refine⟨_,rfl,?_⟩;simp[execOp,h,b,convert,gF i,gF hd,Conv.intToInt]
 ·cases J
def T6:List K->Option K
 |[.str s]=>some (.str s)
 |_=>none
theorem ar2{o:Oper}{s d:TypeId}{x:Operand}(h:o.op=.convert s d x){g:TypeDesc}(i:P.underlying s=some g)(hd:P.underlying d=some .string):ku P ρ o T6:=by
 intro σ l a w v k f J;unfold T6 at J;split at J
 ·cases J;obtain⟨c,b,e⟩:=iW f;simp[fm,h,Op.operands]at e;have j:=b;obtain⟨ok,rfl⟩:=qd b;refine⟨_,j,?_⟩;simp[execOp,h,e,convert,gF i,gF hd]
 ·cases J
end
section
variable {P:Program} {ρ:b4}
def zh(x:K)(y:Nat):Option Nat:=match x with
 |.int _ (.ofNat m)=>bif Nat.ble m y then some m else none
 |_=>none
theorem FQ{σ:bl}{x:K}{y m:Nat}{c:Value}{w:World}{code:BoundsCode}(h:zh x y=some m)(b:aE ρ σ x=some c):m<=y/\(Instr.sliceBound c y code).run P w=.ok m w:=by
 unfold zh at h;split at h
 ·rename_i k n;cases A:Nat.ble n y with
  |false=>simp[A]at h
  |true=>have a:=gP A;simp[A]at h;subst h;obtain rfl:=m0 b;refine⟨a,?_⟩;simp[Instr.sliceBound,asIntOf,a]
 ·cases h
def pA(b a:Bool)(len cap:Nat):List K->Option (Nat×Nat)
 |[]=>bif b||a then none else some (0,len)
 |[x]=>bif b then(bif a then none else match zh x len with|some l=>some (l,len)|none=>none)
  else(bif a then match zh x cap with|some h=>some (0,h)|none=>none else none)
 |[x,y]=>bif b&&a then match zh y cap with
   |some h=>match zh x h with|some l=>some (l,h)|none=>none
   |none=>none
  else none
 |_=>none
theorem N6{σ:bl}{isSlice:Bool}{ee hi:Option Operand}{a:Array Value}{len cap g l h:Nat}{w:World}{vs:List K}(A:pA ee.isSome hi.isSome len g vs=some (l,h))(q:g<=cap) (e:bU ρ σ vs=some ((ee.toArray++hi.toArray).toList.map (dT a))):l<=h/\(h<=g∨h=len)/\(Instr.sliceBounds isSlice len cap (ee.map (dT a)) (hi.map (dT a)) none).run P w=.ok (l,h,cap) w:=by
 have HC:∀{x:K} {m:Nat},zh x g=some m->zh x cap=some m:=fun {x m} f=>by
  unfold zh at f⊢;split at f
  ·rename_i k n;cases o:Nat.ble n g with
   |false=>simp[o]at f
   |true=>have:=gP o;simp[o]at f;subst f;rw[H0 (db this q)];rfl
  ·cases f
 cases ee with
 |none=>
  cases hi with
  |none=>
   cases vs with
   |nil=>simp[pA]at A;obtain⟨rfl,rfl⟩:=A;exact⟨dq _,.inr rfl,by simp[Instr.sliceBounds]⟩
   |cons v vs=>cases vs with
    |nil=>simp[pA]at A
    |cons u vs=>cases vs<;>simp[pA]at A
  |some hi=>
   cases vs with
   |nil=>simp[pA]at A
   |cons v vs=>cases vs with
    |nil=>
     simp only[pA,abj,abk,iK,er]at A;split at A
     ·rename_i m b;cases A;simp at e;obtain⟨c,H,I⟩:=iW e;simp at I;subst I;obtain⟨i,_⟩:=FQ (P:=P) (w:=w) (code:=.sliceAcap) b H;obtain⟨_,j⟩:=FQ (P:=P) (w:=w) (code:=if isSlice then .sliceAcap else .sliceAlen) (HC b) H;exact⟨dq _,.inl i,by simp[Instr.sliceBounds,j]⟩
     ·cases A
    |cons u vs=>cases vs<;>simp[pA]at A
 |some ee=>
  cases hi with
  |none=>
   cases vs with
   |nil=>simp[pA]at A
   |cons v vs=>cases vs with
    |nil=>
     simp only[pA,abj,abk,iK,er]at A;split at A
     ·rename_i m b;cases A;simp at e;obtain⟨c,H,I⟩:=iW e;simp at I;subst I;obtain⟨i,j⟩:=FQ (P:=P) (w:=w) (code:=.sliceB) b H;exact⟨i,.inr rfl,by simp[Instr.sliceBounds,j]⟩
     ·cases A
    |cons u vs=>cases vs<;>simp[pA]at A
  |some hi=>
   cases vs with
   |nil=>simp[pA]at A
   |cons v vs=>cases vs with
    |nil=>simp[pA]at A
    |cons u vs=>cases vs with
     |nil=>
      simp only[pA,abk,Bool.and_self,er]at A;split at A
      ·rename_i m b;split at A
       ·rename_i n r;cases A;simp at e;obtain⟨c,d,H,I,p⟩:=j6 e;simp at p;obtain⟨rfl,rfl⟩:=p;obtain⟨i,_⟩:=FQ (P:=P) (w:=w) (code:=.sliceAcap) b I;obtain⟨_,j⟩:=FQ (P:=P) (w:=w) (code:=if isSlice then .sliceAcap else .sliceAlen) (HC b) I;obtain⟨s,t⟩:=FQ (P:=P) (w:=w) (code:=.sliceB) r H;exact⟨s,.inl i,by simp[Instr.sliceBounds,j,t]⟩
       ·cases A
      ·cases A
     |cons ae vs=>simp[pA]at A
def YQ(b a:Bool):List K->Option K
 |.str s::r=>match pA b a s.length s.length r with
  |some (l,h)=>Mn ((s.take h).drop l) fun q=>some (.str q)
  |none=>none
 |_=>none
theorem azu{s:List Nat}(h:jn s)(a b:Nat):jn ((s.take b).drop a):=by
 unfold jn at*;rw[hs]at*;intro x c;exact h x (MW (anM c))
theorem adX(s:List Nat)(a b:Nat):(fz s).extract a b=fz ((s.take b).drop a):=by
 apply HH;simp[fz,anq,List.map_drop,MT,List.drop_take]
theorem aCn{o:Oper}{t:TypeId}{x:Operand}{ee hi:Option Operand}(h:o.op=.slice t x ee hi none)(hu:P.underlying t=some .string):ku P ρ o (YQ ee.isSome hi.isSome):=by
 intro σ s a w v n g J;unfold YQ at J;split at J
 ·rename_i str r;split at J
  ·rename_i l e A;rw[Y1]at J;cases J;obtain⟨c,m,f,d,b⟩:=uT g;obtain⟨ok,rfl⟩:=qd f;have k:fm o a=dT a x::((ee.toArray++hi.toArray).toList.map (dT a)):=by simp[fm,h,Op.operands]
   rw[k]at b;simp only[pk]at b;obtain⟨ak,i⟩:=b;rw[←i]at d;obtain⟨q,u,j⟩:=N6 (P:=P) (w:=w) (isSlice:=false) (len:=str.length) (cap:=str.length) A (aZ _) d;refine⟨_,aeo (azu ok l e),?_⟩;have eD:(Instr.sliceAt t (.string (fz str)) (ee.map (dT a)) (hi.map (dT a)) none).run P w=.ok (.string (fz ((str.take e).drop l))) w:=by simp only[Instr.sliceAt,d',gF hu,dX,Instr.slice,Jm,j,abj,p0,oV,eQ,adX]
   exact ajM
  ·cases J
 ·cases J
def FT(h:ay)(b off esz:Nat)(cap:Option Nat):Option (Nat×Bool):=match cap with
 |some c=>some (c,true)
 |none=>match h.cK b with
  |some (.cells _ vs a _)=>some (Nat.div (vs.length-off) esz,a)
  |_=>none
theorem TN{σ:bl}{h:ay}{w:World}{b off esz:Nat}{cap:Option Nat}{c:Nat}{d:Bool}{p:lT}(g:c6 ρ σ h w)(ag:σ b=some p)(a:FT h b off esz cap=some (c,d)):c<=i9 p off esz cap/\(d=true->c=i9 p off esz cap):=by
 cases cap with
 |some k=>simp[FT]at a;obtain⟨rfl,rfl⟩:=a;exact⟨aZ _,fun _=>rfl⟩
 |none=>
  simp only[FT]at a;split at a
  ·rename_i elem vs l wr A;simp at a;obtain⟨rfl,rfl⟩:=a;obtain⟨f,arr,bg,cs,i,H,I,j,e,_⟩:=g.cells A;obtain rfl:p=f:=gn (ag.symm.trans i);refine⟨anQ z,fun ah=>?_⟩;show(vs.length-off)/esz=(p.tot-off)/esz;rw[(e ah).1]
  ·cases a
def Y2(l:Nat):Option Nat->Option Nat
 |some k=>some (k-l)
 |none=>none
def YS(esz:Nat)(f d:Bool):List K->ay->Option K
 |.slice b off len e cap::r,h=>bif Nat.beq e esz&&Nat.blt 0 esz then match FT h b off esz cap with
  |some (c,i)=>match pA f d len c r with
   |some (l,a)=>bif Nat.ble a c then
     (bif Nat.blt l c||Nat.beq l 0 then
      uw (off+l*esz) fun g=>uw (a-l) fun n'=>some (.slice b g n' esz (Y2 l cap))
     else bif i then some (.slice b off 0 esz (some 0))else bif cap.isNone then some (.jx b off l esz)else none)
    else none
   |none=>none
  |none=>none
  else none
 |.bS::r,_=>match pA f d 0 0 r with
  |some (0,0)=>some .bS
  |_=>none
 |_,_=>none
theorem aCo{o:Oper}{t e:TypeId}{x:Operand}{ee hi:Option Operand}(h:o.op=.slice t x ee hi none){d:TypeInfo}(hu:P.underlying t=some (.slice e))(F:P.info? e=some d):xg P ρ o (YS d.size ee.isSome hi.isSome):=by
 intro σ s Y a w v X n O J;have V:fm o a=dT a x::((ee.toArray++hi.toArray).toList.map (dT a)):=by simp[fm,h,Op.operands]
 rw[V]at n;unfold YS at J;split at J
 ·rename_i b off len R cap r;cases i:(Nat.beq R d.size&&Nat.blt 0 d.size)with
  |false=>rw[i]at J;simp at J
  |true=>
   rw[i]at J;simp only[er]at J;simp only[dz]at i;have T:=gV i.1;subst T;have Z:0<d.size:=by simpa using i.2
   split at J
   ·rename_i c U L;split at J
    ·rename_i l I A;cases B:Nat.ble I c with
     |false=>rw[B]at J;simp at J
     |true=>
      have W:=gP B;rw[B]at J;simp only[er]at J;obtain⟨c1,H,m,f,g⟩:=uT n;simp only[pk]at g;obtain⟨ak,q⟩:=g;obtain⟨p,ag,rfl⟩:=xz m;obtain⟨ce,eb⟩:=TN O ag L;rw[←q]at f;obtain⟨N,Q,C⟩:=N6 (P:=P) (w:=w) (isSlice:=true) (len:=len) (cap:=i9 p off d.size cap) A ce f;have eD:(Instr.sliceAt t (.slice (some ⟨p.aU,p.dA+off,none⟩) len (i9 p off d.size cap)) (ee.map (dT a)) (hi.map (dT a)) none).run P w=
        .ok (.slice (if i9 p off d.size cap=l then some ⟨p.aU,p.dA+off,none⟩else some ⟨p.aU,p.dA+off+l*d.size,none⟩) (I-l) (i9 p off d.size cap-l)) w:=by
       simp only[Instr.sliceAt,d',gF hu,dX,Instr.slice,C,n6 F,eQ,ob,xr]
      have D:∀(y:K) (u:Value),aE ρ σ y=some u->u=(.slice (if i9 p off d.size cap=l then some ⟨p.aU,p.dA+off,none⟩else some ⟨p.aU,p.dA+off+l*d.size,none⟩) (I-l) (i9 p off d.size cap-l))->
        ∃c,aE ρ σ y=some c/\(execOp (dT a) o).run P w=.ok (.value c) w:=fun y u M G=>by
       refine⟨u,M,?_⟩;rw[G];simp only[execOp,h,ak,d',abl,eD,dX,eQ]
      cases ah:(Nat.blt l c||Nat.beq l 0)with
      |true=>
       rw[ah]at J;simp only[er,yr,cb]at J;subst J;have j:i9 p off d.size cap≠l∨l=0:=by
        simp only[ML]at ah;rcases ah with ah|ah
        ·left;have:l<c:=by simpa using ah
         omega
        ·right;exact gV ah
       have S:i9 p (off+l*d.size) d.size (Y2 l cap)=i9 p off d.size cap-l:=by
        cases cap with
        |some k=>rfl
        |none=>simp only[i9,Y2];rw[←Nat.sub_sub,E3 l,Nat.sub_mul_div]
       refine D _ (.slice (some ⟨p.aU,p.dA+(off+l*d.size),none⟩) (I-l) (i9 p off d.size cap-l)) (by simp only[aE,ag,ob,S]) ?_;rcases j with j|j
       ·rw[bn j,kr]
       ·subst j;simp
      |false=>
       rw[ah]at J;simp only[iK]at J;cases U with
       |false=>
        simp only[iK]at J;cases cap with
        |some _=>simp at J
        |none=>
         simp at J;subst J;have E:I-l=0:=by
          rw[MK]at ah;have:¬l<c:=fun aq=>by
            have z:Nat.blt l c=true:=by simpa using aq
            rw[z]at ah;cases ah.1
          omega
         refine D _ _ (by simp only[aE,ag,ob];rfl) ?_;rw[E];split
         ·simp
         ·simp[kr]
       |true=>
        simp at J;subst J;have E:l=i9 p off d.size cap:=by
         rw[MK]at ah;have:¬l<c:=fun aq=>by
           have z:Nat.blt l c=true:=by simpa using aq
           rw[z]at ah;cases ah.1
         have:=eb rfl;omega
        refine D _ (.slice (some ⟨p.aU,p.dA+off,none⟩) 0 0) (by simp[aE,ag,i9]) ?_;rw[cv E.symm];congr 1<;>omega
    ·cases J
   ·cases J
 ·rename_i r;split at J
  ·rename_i A;cases J;obtain⟨c1,H,m,f,g⟩:=uT n;simp only[pk]at g;obtain⟨ak,q⟩:=g;simp only[aE,cb]at m;subst m;rw[←q]at f;obtain⟨N,Q,C⟩:=N6 (P:=P) (w:=w) (isSlice:=true) (len:=0) (cap:=0) A (aZ _) f;refine⟨_,rfl,?_⟩;have eD:(Instr.sliceAt t (.slice none 0 0) (ee.map (dT a)) (hi.map (dT a)) none).run P w=.ok (.slice none 0 0) w:=by simp only[Instr.sliceAt,d',gF hu,dX,Instr.slice,C,n6 F,eQ,abl];simp
   exact ajM
  ·cases J
 ·cases J
end
section
variable {P:Program} {ρ:b4}
theorem c6.rename{σ:bl}{h:ay}{w:World}(r:c6 ρ σ h w){b:Nat}{p q:lT}{i x:em}(A:h.cK b=some i)(ag:σ b=some p)(K:b<en)(L:h.nx<en){o:Obj}(aq:p.aU<w.heap.size)(s:q.aU=p.aU) (M:io ρ (dW σ h.nx q) q (some o) x):c6 ρ (dW σ h.nx q) ((h.dD b none).add x) (gj w p.aU o)/\jj σ h w (dW σ h.nx q) ((h.dD b none).add x) (gj w p.aU o):=by
 have G:=r.jy h.nx (aZ _);have Q:b≠h.nx:=fun e=>by rw[e,G]at ag;cases ag
 have B:∀j,((h.dD b none).add x).cK j=if j=h.nx then some x else if j=b then none else h.cK j:=fun j=>by rw[ay.U5 _ _ _ (show(h.dD b none).nx<en from L),ay.vb h b j none K];rfl
 have t:ke σ (dW σ h.nx q):=.dD G;have st:∀j y f,j≠b->h.cK j=some y->σ j=some f->(gj w p.aU o).heap[f.aU]? =w.heap[f.aU]? :=fun j y f e a g=>by have:=r.inj j b y i f p a A g ag e;exact Xr
 refine⟨⟨fun j y a=>?_,fun j m y J E F a d n l u=>?_,fun j a=>?_⟩,?_⟩
 ·rw[B]at a;by_cases e:j=h.nx
  ·subst e;rw[cv rfl]at a;cases a;exact⟨q,by simp[dW],by rw[s,YH aq];exact M⟩
  ·rw[bn e]at a;by_cases c:j=b
   ·rw[cv c]at a;cases a
   ·rw[bn c]at a;obtain⟨f,g,N⟩:=r.aU j y a;exact⟨f,t _ _ g,by rw[st j y f c a g];exact N.ext t⟩
 ·rw[B]at a d;by_cases e:j=h.nx
  ·subst e;simp only[dW,cv,cb]at n;subst n;rw[bn (ht u)]at d;simp only[dW,bn (ht u)]at l;by_cases c:m=b
   ·rw[cv c]at d;cases d
   ·rw[bn c]at d;rw[s];exact fun e=>r.inj m b J i F p d A l ag c e.symm
  ·rw[bn e]at a;simp only[dW,bn e]at n;by_cases bL:j=b
   ·rw[cv bL]at a;cases a
   ·rw[bn bL]at a;by_cases c:m=h.nx
    ·subst c;simp only[dW,cv,cb]at l;subst l;rw[s];exact r.inj j b y i E p a A n ag bL
    ·rw[bn c]at d;simp only[dW,bn c]at l;by_cases D:m=b
     ·rw[cv D]at d;cases d
     ·rw[bn D]at d;exact r.inj j m y J E F a d n l u
 ·have a:h.nx+1<=j:=a;rw[dW,bn z];exact r.jy j z
 ·refine⟨t,fun j H I=>?_,oT _,by simp[gj],fun k R O=>?_,fun k ⟨j,y,f,a,g,e⟩=>?_,rfl,rfl,rfl⟩
  ·by_cases e:j=h.nx
   ·omega
   ·rw[dW,bn e]at I;exact(I H).elim
  ·have:p.aU≠k:=fun e=>O ⟨b,i,p,A,ag,e⟩;simp[gj,yF,this]
  ·rw[B]at a;by_cases ak:j=h.nx
   ·subst ak;simp only[dW,cv,cb]at g;subst g;exact .inr ⟨b,i,p,A,ag,s▸e⟩
   ·rw[bn ak]at a;simp only[dW,bn ak]at g;by_cases C:j=b
    ·rw[cv C]at a;cases a
    ·rw[bn C]at a;exact .inr ⟨j,y,f,a,g,e⟩
theorem c6.drop{σ:bl}{h:ay}{w:World}(r:c6 ρ σ h w){b:Nat}(f:b<en):c6 ρ σ (h.dD b none) w/\jj σ h w σ (h.dD b none) w:=by
 have m:=fun j=>ay.vb h b j none f;have sub:∀j y,(h.dD b none).cK j=some y->h.cK j=some y:=fun j y a=>by
  rw[m]at a;split at a
  ·cases a
  ·exact a
 exact⟨⟨fun j y a=>r.aU j y (sub j y a),fun j c y d q l a i=>r.inj j c y d q l (sub j y a) (sub c d i),fun j a=>r.jy j a⟩,
  ⟨.refl _,fun _ H I=>(I H).elim,aZ _,aZ _,fun _ _ _=>rfl,fun k ⟨j,y,q,a,g,e⟩=>.inr ⟨j,y,q,sub j y a,g,e⟩,rfl,rfl,rfl⟩⟩
def Q5(esz:Nat)(h:ay):K->Option (Nat×List K)
 |.slice b o n e _=>bif Nat.beq n 0 then some (0,[])else bif Nat.beq e esz then match h.cK b with
  |some (.cells _ vs _ _)=>bif Nat.ble (o+n*esz) vs.length then some (n,(vs.drop o).take (n*esz))else none
  |_=>none
  else none
 |.bS=>some (0,[])
 |.jx _ _ _ _=>some (0,[])
 |.str s=>bif Nat.beq esz 1 then some (s.length,s.map fun b=>.int .u8 (.ofNat b))else none
 |_=>none
theorem aen{σ:bl}:∀{s:List Nat},jn s->bU ρ σ (s.map fun b=>.int .u8 (.ofNat b))=some ((s.map UInt8.ofNat).map fun b=>.int .u8 (b.toNat:Int))
 |[],_=>rfl
 |a::l,h=>by
  obtain⟨H,I⟩:=zY h
  simp only[oa,bU,aE,aen I]
  have:(UInt8.ofNat a).toNat=a:=by rw[Rz];exact ry H
  rw[this]
  rfl
theorem YV{σ:bl}{h:ay}{w:World}(y:c6 ρ σ h w){esz n:Nat}{x:K}{c:Value}{l:List K}(a:Q5 esz h x=some (n,l))(d:aE ρ σ x=some c): (Builtin.lenOf c).run P w=.ok n w/\l.length=n*esz/\∀k,k<=n->∃r,bU ρ σ (l.take (k*esz))=some r/\(Builtin.firstCells esz k c).run P w=.ok r.toArray w:=by
 unfold Q5 at a;split at a
 ·rename_i b o m e cap;obtain⟨p,ag,rfl⟩:=xz d;cases ab:Nat.beq m 0 with
  |true=>rw[ab]at a;simp at a;obtain⟨rfl,rfl⟩:=a;have:=gV ab;subst this;refine⟨by simp[Builtin.lenOf],am,fun k f=>⟨[],by simp[bU],?_⟩⟩;have:k=0:=z;subst this;simp[Builtin.firstCells,loadCells,loadCellsFrom]
  |false=>
   rw[ab]at a;simp only[iK]at a;cases i:Nat.beq e esz with
   |false=>rw[i]at a;simp at a
   |true=>
    rw[i]at a;simp only[er]at a;split at a
    ·rename_i elem vs L wr A;cases g:Nat.ble (o+m*esz) vs.length with
     |false=>rw[g]at a;simp at a
     |true=>have F:=gP g;rw[g]at a;simp at a;obtain⟨rfl,rfl⟩:=a;obtain⟨u,arr,bg,cs,B,H,I,E,D,q,C,_⟩:=y.cells A;obtain rfl:p=u:=gn (ag.symm.trans B);have J:=me q;refine⟨by simp[Builtin.lenOf],bu,fun k f=>?_⟩;have G:k*esz<=m*esz:=oU _ f;refine⟨((cs.drop o).take (m*esz)).take (k*esz),sU _ (sU _ (tS _ q)),?_⟩;simp only[Builtin.firstCells];refine Me p.aU (p.dA+o) (k*esz) _ bu fun j t=>?_;rw[kr,C (o+j) z];simp[oS,t,show j<m*esz by omega]
    ·cases a
 ·simp at a;obtain⟨rfl,rfl⟩:=a;simp only[aE,cb]at d;subst d;refine⟨by simp[Builtin.lenOf],am,fun k f=>⟨[],by simp[bU],?_⟩⟩;simp[Builtin.firstCells]
 ·simp at a;obtain⟨rfl,rfl⟩:=a;simp only[aE,ig]at d;obtain⟨p,ag,rfl⟩:=d;refine⟨by simp[Builtin.lenOf],am,fun k f=>⟨[],by simp[bU],?_⟩⟩;have:k=0:=z;subst this;simp[Builtin.firstCells,loadCells,loadCellsFrom]
 ·rename_i s;cases H:Nat.beq esz 1 with
  |false=>rw[H]at a;simp at a
  |true=>
  obtain rfl:=gV H;simp at a;obtain⟨rfl,rfl⟩:=a;obtain⟨ok,rfl⟩:=qd d;refine⟨by simp[Builtin.lenOf,Jm],am,fun k f=>⟨_,sU _ (aen ok),?_⟩⟩;simp only[Builtin.firstCells,adX,tv,eQ];congr 1;apply vE;simp[fz,MT]
 ·cases a
theorem afG(n:Nat):∀(r c:Nat),Builtin.growBy n r c<=max c (2*n+192)
 |0,c=>by simp[Builtin.growBy];omega
 |r+1,c=>by
  rw[Builtin.growBy]
  split
  ·omega
  ·rename_i h
   have:=afG n r (c+(c+768)/4)
   omega
theorem akn{n c:Nat}(h:c<n):Builtin.nextslicecap n c<=2*n+192:=by
 unfold Builtin.nextslicecap;split
 ·omega
 ·split
  ·omega
  ·have:=afG n 4 c;omega
theorem anc(ae:Array Value)(n:Nat)(a:ae.size≠0):Builtin.zeroCells ae n=(su n ae.toList).toArray:=by
 unfold Builtin.zeroCells;exact alt ae n a
end
section
variable {P:Program} {ρ:b4}
def Be(e:TypeId)(esz bytes:Nat)(h:ay)(old:List K)(need:Nat)(l:List K):Option (K×ay):=
 bif Nat.ble ((2*need+192)*bytes) 281474976710656&&Nat.ble need 4611686018427387904&&Nat.blt h.nx en then some (.slice h.nx 0 need esz none,h.add (.cells e (old++l) false true))else none
def Tn(e:TypeId)(esz bytes:Nat):List K->ay->Option (K×ay)
 |[d,x],h=>match Q5 esz h x with
  |none=>none
  |some (n,l)=>match d with
   |.bS=>bif Nat.beq n 0 then some (.bS,h)else Be e esz bytes h [] n l
   |.slice b off len i cap=>bif Nat.beq i esz then match FT h b off esz cap with
    |none=>none
    |some (c,g)=>
     bif Nat.ble (len+n) c then
      (bif Nat.beq n 0 then some (.slice b off len esz cap,h)else match h.cK b with
       |some (.cells a vs f true)=>bif Nat.ble (off+(len+n)*esz) vs.length&&l.all pd&&Nat.blt b en then
         some (.slice b off (len+n) esz cap,h.dD b (some (.cells a (yo vs (off+len*esz) l) f true)))else none
       |_=>none)
     else(bif g&&Nat.beq len 0 then Be e esz bytes h [] n l else match h.cK b with
      |some (.cells a vs f wr)=>bif Nat.ble (off+len*esz) vs.length then
        (bif g then Be e esz bytes h ((vs.drop off).take (len*esz)) (len+n) l
        else bif wr&&Nat.beq a e&&Nat.blt b en&&l.all pd&&cap.isNone&&Nat.ble ((2*(len+n)+192)*bytes) 281474976710656&&Nat.ble (len+n) 4611686018427387904&&Nat.blt h.nx en then
         some (.slice h.nx 0 (len+n) esz none,(h.dD b none).add (.cells e ((vs.drop off).take (len*esz)++l) false true))
        else none)
       else none
      |_=>none)
    else none
   |_=>none
 |_,_=>none
theorem XS{a:TypeDesc}(h:∀k,a≠ .int k):(match a with|TypeDesc.int _=>true|_=>false)=false:=by
 cases a<;>first|rfl|exact(h _ rfl).elim
theorem atZ{w:World}{c:Array TypeId}{ty s e f:TypeId}{g:TypeDesc}{base:Option Addr}{sLen sCap n:Nat}{x:Value}{a:TypeInfo}{ae:Value}{old eI:List Value}(r:c[0]? =some s)(C:c[1]? =some f)(hu:P.underlying s=some (.slice e))(d:P.info? e=some a)(m:a.zero=some ae)(t:ae.cells.size=a.size)(o:a.size≠0) (y:P.underlying f=some g)(l:∀k,g≠ .int k)(q:(Builtin.lenOf x).run P w=.ok n w)(i:∀w',w'.heap=w.heap->(Builtin.firstCells a.size sLen (.slice base sLen sCap)).run P w'=.ok old.toArray w') (B:∀w',w'.heap=w.heap->(Builtin.firstCells a.size n x).run P w'=.ok eI.toArray w')(D:sCap<sLen+n)(A:(2*(sLen+n)+192)*a.bytes<=281474976710656)(G:sLen+n<=4611686018427387904):∃cap,sLen+n<=cap/\(Builtin.append_ c ty #[.slice base sLen sCap,x]).run P w=.ok (.slice (some ⟨w.heap.size,0,none⟩) (sLen+n) cap) {w with heap:=w.heap.push (.cells (old++(eI++su (cap-(sLen+n)) ae.cells.toList)).toArray e),drawn:=w.drawn+1}:=by
 refine⟨(Question.appendCap (sLen+n) sCap e).cut (w.tape w.drawn (.appendCap (sLen+n) sCap e)),by simp[Question.cut],?_⟩;have u:=akn D;have H:Builtin.nextslicecap (sLen+n) sCap*a.bytes<=281474976710656:=db (oU _ u) A;have E:¬(((sLen+n:Nat):Int)>IntKind.i64.max/\(false=true∨a.bytes=0)):=by have:IntKind.i64.max=9223372036854775807:=rfl;rw[this];omega
 have j:¬Builtin.nextslicecap (sLen+n) sCap*a.bytes>2^48:=by have:(2:Nat)^48=281474976710656:=rfl;rw[this];omega
 have a0:(#[Value.slice base sLen sCap,x]:Array Value)[0]? =some (.slice base sLen sCap):=rfl;have bO:(#[Value.slice base sLen sCap,x]:Array Value)[1]? =some x:=rfl;have hcut:∀w':World,(choose (.appendCap (sLen+n) sCap e)).run P w'=.ok ((Question.appendCap (sLen+n) sCap e).cut (w'.tape w'.drawn (.appendCap (sLen+n) sCap e))) {w' with drawn:=w'.drawn+1}:=fun w'=>by simp[run_choose,Question.forced]
 have b:∀w',(typeInfo e).run P w'=.ok a w':=fun w'=>by simp[typeInfo,d]
 have F:∀w',(zeroValue e).run P w'=.ok ae w':=fun w'=>by simp[zeroValue,b,m]
 simp only[Builtin.append_,r,a0,bO,C];simp only[d',gF hu,dX,n6 d,gF y,eQ,XS l,p0,oV,q,MJ,sA];rw[bn z];simp only[d',b,dX];rw[bn (by simpa using E)];simp only[d',b,dX];rw[bn j];simp only[d',hcut,dX,b,aa3];rw[i {w with drawn:=w.drawn+1} rfl];simp only[dX];rw[B {w with drawn:=w.drawn+1} rfl];simp only[dX,F,newRow,d',RG,eQ];rw[anc ae.cells _ (by rw[t];exact o)];simp[Cp]
theorem T1{σ:bl}{vs:List K}{a b:List Value}(H:bU ρ σ vs=some a)(I:bU ρ σ vs=some b):a=b:=gn (H.symm.trans I)
theorem grown{σ:bl}{w:World}{b:Nat}(A:σ b=none){e:TypeId}{esz need cap:Nat}{vs:List K}{cs zs:List Value}(a:bU ρ σ vs=some cs)(c:vs.length=need*esz)(d:zs.length=esz)(g:need<=cap): io ρ (dW σ b ⟨w.heap.size,0,cap*esz⟩) ⟨w.heap.size,0,cap*esz⟩ (some (.cells (cs++su (cap-need) zs).toArray e)) (.cells e vs false true):=by
 have f:=me a;have j:need*esz<=cap*esz:=oU _ g;refine⟨_,(0,0),rfl,?_,(show vs.length<=cap*esz by omega),(fun h=>by cases h),⟨cs,pD (.dD A) a,fun i hi=>?_⟩,fun _ i _ _=>am⟩
 ·simp only[List.size_toArray,ie,Yh,d,gm];rw[f,c,←vH];congr 1;omega
 ·simp only[gm,RL];rw[w0 z]
theorem afH{σ:bl}{h:ay}{w:World}(j:c6 ρ σ h w){f:Array TypeId}{ty s e o:TypeId}{p:TypeDesc}{base:Option Addr}{sLen sCap n:Nat}{x:Value}{a:TypeInfo}{ae:Value}{oldV b:List K}{old eI:List Value}(F:f[0]? =some s)(J:f[1]? =some o)(hu:P.underlying s=some (.slice e))(u:P.info? e=some a)(B:a.zero=some ae)(m:ae.cells.size=a.size)(i:a.size≠0) (H:P.underlying o=some p)(r:∀k,p≠ .int k)(D:(Builtin.lenOf x).run P w=.ok n w)(q:∀w',w'.heap=w.heap->(Builtin.firstCells a.size sLen (.slice base sLen sCap)).run P w'=.ok old.toArray w') (I:∀w',w'.heap=w.heap->(Builtin.firstCells a.size n x).run P w'=.ok eI.toArray w')(L:sCap<sLen+n)(C:bU ρ σ oldV=some old)(z:bU ρ σ b=some eI)(t:oldV.length=sLen*a.size)(M:b.length=n*a.size) (A:(2*(sLen+n)+192)*a.bytes<=281474976710656)(y:sLen+n<=4611686018427387904)(g:h.nx<en):∃c w',(Builtin.append_ f ty #[.slice base sLen sCap,x]).run P w=.ok c w'/\∃σ',aE ρ σ' (.slice h.nx 0 (sLen+n) a.size none)=some c/\c6 ρ σ' (h.add (.cells e (oldV++b) false true)) w'/\jj σ h w σ' (h.add (.cells e (oldV++b) false true)) w':=by
 obtain⟨cap,G,E⟩:=atZ (ty:=ty) F J hu u B m i H r D q I L A y;have d:=j.jy h.nx (aZ _);have l:=grown (w:=w) (e:=e) (esz:=a.size) (need:=sLen+n) (cap:=cap) (zs:=ae.cells.toList) d (uS C z) (by simp[t,M,vH]) (by simpa using m) G;rw[Cp]at l;refine⟨_,_,E,dW σ h.nx ⟨w.heap.size,0,cap*a.size⟩,?_,j.add d g (oT _) (Cv _) l,.add d g (aZ _) (oT _)⟩;have:cap*a.size/a.size=cap:=RV _ (M3 i);simp[aE,dW,i9,this]
end
section
variable {P:Program} {ρ:b4}
theorem WV{w w':World}{b:Array TypeId}{ty s e c:TypeId}{d:TypeDesc}{base:Addr}{sLen sCap n:Nat}{x:Value}{a:TypeInfo}{eI:List Value}(l:b[0]? =some s)(p:b[1]? =some c)(hu:P.underlying s=some (.slice e))(g:P.info? e=some a) (m:P.underlying c=some d)(f:∀k,d≠ .int k)(h:(Builtin.lenOf x).run P w=.ok n w)(o:(Builtin.firstCells a.size n x).run P w=.ok eI.toArray w)(i:sLen+n<=sCap) (j:(storeCells (base.add (sLen*a.size)) eI).run P w=.ok () w'): (Builtin.append_ b ty #[.slice (some base) sLen sCap,x]).run P w=.ok (.slice (some base) (sLen+n) sCap) w':=by
 have a0:(#[Value.slice (some base) sLen sCap,x]:Array Value)[0]? =some (.slice (some base) sLen sCap):=rfl;have bO:(#[Value.slice (some base) sLen sCap,x]:Array Value)[1]? =some x:=rfl;simp only[Builtin.append_,l,a0,bO,p];simp only[d',gF hu,dX,n6 g,gF m,eQ,XS f,p0,oV,h,MJ,sA];rw[cv i];simp only[d',o,dX,j,eQ]
theorem aqR{w:World}{a:Array TypeId}{ty s e c:TypeId}{d:TypeDesc}{x:Value}{b:TypeInfo}{eI:Array Value}(j:a[0]? =some s)(n:a[1]? =some c)(hu:P.underlying s=some (.slice e))(g:P.info? e=some b) (l:P.underlying c=some d)(f:∀k,d≠ .int k)(i:(Builtin.lenOf x).run P w=.ok 0 w)(m:(Builtin.firstCells b.size 0 x).run P w=.ok eI w): (Builtin.append_ a ty #[.slice none 0 0,x]).run P w=.ok (.slice none 0 0) w:=by
 have a0:(#[Value.slice none 0 0,x]:Array Value)[0]? =some (.slice none 0 0):=rfl;have bO:(#[Value.slice none 0 0,x]:Array Value)[1]? =some x:=rfl;simp only[Builtin.append_,j,a0,bO,n];simp only[d',gF hu,dX,n6 g,gF l,eQ,XS f,p0,oV,i,MJ,sA];rw[cv am];simp only[d',m,dX,eQ]
theorem aqS{o:Oper}{c:Call}{s e mn:TypeId}{o3:TypeDesc}{f:TypeInfo}{ae:Value}(h:o.op=.call c)(L:c.callee=.builtin .append)(T:c.argTypes[0]? =some s)(W:c.argTypes[1]? =some mn)(hu:P.underlying s=some (.slice e))(aL:P.info? e=some f) (ax:f.zero=some ae)(fG:ae.cells.size=f.size)(b5:f.size≠0)(V:P.underlying mn=some o3)(M:∀k,o3≠ .int k):y2 P ρ o (Tn e f.size f.bytes):=by
 intro σ vs m a w v bf al ad r J;rw[wT h L]at ad;have done:∀(u x D:Value) (w':World) (R:Prop),(c.args.map (dT a)).toList=[u,x]->(Builtin.append_ c.argTypes o.type #[u,x]).run P w=.ok D w'->(execOp (dT a) o).run P w=.ok (.value D) w':=fun u x D w' _ O Y=>by exact P4
 unfold Tn at J;split at J
 ·rename_i d x;split at J
  ·cases J
  ·rename_i n l Pz;obtain⟨ar,hy,wx,jA,O⟩:=j6 ad;obtain⟨S,X,O'⟩:=YV (P:=P) r Pz jA;obtain⟨eI,t,oA⟩:=O' n (aZ _);have oE:l.take (n*f.size)=l:=tt z;rw[oE]at t;have ah:∀w',w'.heap=w.heap->(Builtin.firstCells f.size n hy).run P w'=.ok eI.toArray w':=fun w' Lb=>by obtain⟨_,_,cI⟩:=YV (P:=P) (r.akA Lb) Pz jA;obtain⟨ap,H,I⟩:=cI n (aZ _);rw[oE]at H;rw[T1 t H];exact I
   split at J
   ·
    simp only[aE,cb]at wx;subst wx;cases ab:Nat.beq n 0 with
    |true=>rw[ab]at J;simp at J;obtain⟨rfl,rfl⟩:=J;obtain rfl:=gV ab;exact .inl ⟨_,w,done _ _ _ _ True O (aqR T W hu aL V M S oA),σ,rfl,r,.refl _ _ _⟩
    |false=>
     rw[ab]at J;simp only[iK]at J;have nz:n≠0:=fun e=>by subst e;simp at ab
     unfold Be at J;cases g:(Nat.ble ((2*n+192)*f.bytes) 281474976710656&&Nat.ble n 4611686018427387904&&Nat.blt m.nx en)with
     |false=>rw[g]at J;simp at J
     |true=>
      rw[g]at J;simp only[er,cb,g9]at J;obtain⟨rfl,rfl⟩:=J;simp only[dz]at g;obtain⟨⟨c1,c2⟩,c3⟩:=g;have c1:=gP c1;have c2:=gP c2;have c3:m.nx<en:=by simpa using c3
      obtain⟨D,w',Y,σ',N,bb,bR⟩:=afH (P:=P) r (ty:=o.type) (base:=none) (sLen:=0) (sCap:=0) (oldV:=[]) (old:=[]) T W hu aL ax fG b5 V M S (fun w' _=>by simp[Builtin.firstCells]) ah z rfl t am X (by simpa using c1) z c3;simp only[gm]at N;exact .inl ⟨D,w',done _ _ _ _ True O Y,σ',N,bb,bR⟩
   ·rename_i b off len cw cap;cases wC:Nat.beq cw f.size with
    |false=>rw[wC]at J;simp at J
    |true=>
     rw[wC]at J;obtain rfl:=gV wC;simp only[er]at J;obtain⟨p,ag,rfl⟩:=xz wx;split at J
     ·cases J
     ·rename_i sS u_ Gx;obtain⟨ce,eb⟩:=TN r ag Gx;cases Z:Nat.ble (len+n) sS with
      |true=>
       have VY:=gP Z;rw[Z]at J;simp only[er]at J;cases ab:Nat.beq n 0 with
       |true=>rw[ab]at J;simp at J;obtain⟨rfl,rfl⟩:=J;obtain rfl:=gV ab;have an:l=[]:=HS.1 (by simpa using X);subst an;simp[bU]at t;subst t;have Y:=WV (P:=P) (ty:=o.type) (w':=w) (base:=⟨p.aU,p.dA+off,none⟩) T W hu aL V M S oA (db VY ce) (by simp[storeCells]);exact .inl ⟨_,w,done _ _ _ _ True O Y,σ,wx,r,.refl _ _ _⟩
       |false=>
        rw[ab]at J;simp only[iK]at J;split at J
        ·rename_i F E jZ A;cases g:(Nat.ble (off+(len+n)*f.size) E.length&&l.all pd&&Nat.blt b en)with
         |false=>rw[g]at J;simp at J
         |true=>
          rw[g]at J;simp only[er,cb,g9]at J;obtain⟨rfl,rfl⟩:=J;simp only[dz]at g;obtain⟨⟨c1,c2⟩,c3⟩:=g;have c1:=gP c1;have c3:b<en:=by simpa using c3
          obtain⟨bQ,w',ew,eE,q9,cV⟩:=r.aaI (off:=off+len*f.size) A c3 t (by rw[X];rw[vH]at c1;omega) (JD c2 t);obtain rfl:p=bQ:=gn (ag.symm.trans ew);have Y:=WV (P:=P) (ty:=o.type) (w':=w') (base:=⟨p.aU,p.dA+off,none⟩) T W hu aL V M S oA (db VY ce) (by rw[xr,kr];exact eE P);exact .inl ⟨_,w',done _ _ _ _ True O Y,σ,by simp[aE,ag],q9,cV⟩
        ·cases J
      |false=>
       have VY:sS<len+n:=by apply abe;intro dx;rw[H0 dx]at Z;cases Z
       rw[Z]at J;simp only[iK]at J;have grow:∀(oldV:List K) (old:List Value),(∀w',w'.heap=w.heap->(Builtin.firstCells f.size len (.slice (some ⟨p.aU,p.dA+off,none⟩) len (i9 p off f.size cap))).run P w'=.ok old.toArray w')->bU ρ σ oldV=some old->oldV.length=len*f.size->
         i9 p off f.size cap<len+n->(2*(len+n)+192)*f.bytes<=281474976710656->len+n<=4611686018427387904->m.nx<en->
         CA P o a w fun c w'=>∃σ',aE ρ σ' (.slice m.nx 0 (len+n) f.size none)=some c/\c6 ρ σ' (m.add (.cells e (oldV++l) false true)) w'/\jj σ m w σ' (m.add (.cells e (oldV++l) false true)) w':=fun oldV old b6 cf ep kA ro n3 L3=>by
        obtain⟨D,w',Y,σ',N,bb,bR⟩:=afH (P:=P) r (ty:=o.type) (base:=some ⟨p.aU,p.dA+off,none⟩) T W hu aL ax fG b5 V M S b6 ah kA cf t ep X ro n3 L3;exact .inl ⟨D,w',done _ _ _ _ True O Y,σ',N,bb,bR⟩
       cases Q:(u_&&Nat.beq len 0)with
       |true=>
        rw[Q]at J;simp only[er]at J;simp only[dz]at Q;obtain⟨rfl,Bv⟩:=Q;obtain rfl:=gV Bv;have:=eb rfl;unfold Be at J;cases g:(Nat.ble ((2*n+192)*f.bytes) 281474976710656&&Nat.ble n 4611686018427387904&&Nat.blt m.nx en)with
        |false=>rw[g]at J;simp at J
        |true=>
         rw[g]at J;simp only[er,cb,g9]at J;obtain⟨rfl,rfl⟩:=J;simp only[dz]at g;obtain⟨⟨c1,c2⟩,c3⟩:=g;have c1:=gP c1;have c2:=gP c2;have c3:m.nx<en:=by simpa using c3
         have:=grow [] [] (fun w' _=>by simp[Builtin.firstCells,loadCells,loadCellsFrom]) rfl am z (by simpa using c1) z c3;simpa using this
       |false=>
        rw[Q]at J;simp only[iK]at J;split at J
        ·rename_i F E jZ wr A;cases fJ:Nat.ble (off+len*f.size) E.length with
         |false=>rw[fJ]at J;simp at J
         |true=>
          have Pg:=gP fJ;rw[fJ]at J;simp only[er]at J;have GI:∀w',w'.heap=w.heap->∃cs,bU ρ σ ((E.drop off).take (len*f.size))=some cs/\(Builtin.firstCells f.size len (.slice (some ⟨p.aU,p.dA+off,none⟩) len (i9 p off f.size cap))).run P w'=.ok cs.toArray w':=fun w' Lb=>by obtain⟨bQ,arr,bg,cs,ew,H,I,af,aM,bZ,fo,_⟩:=(r.akA Lb).cells A;obtain rfl:p=bQ:=gn (ag.symm.trans ew);have fS:=me bZ;refine⟨_,sU _ (tS _ bZ),?_⟩;simp only[Builtin.firstCells];refine Me p.aU (p.dA+off) (len*f.size) _ bu fun j B=>?_;rw[kr,fo (off+j) z];simp[oS,B]
          obtain⟨old,G,_⟩:=GI w rfl;have ai:∀w',w'.heap=w.heap->(Builtin.firstCells f.size len (.slice (some ⟨p.aU,p.dA+off,none⟩) len (i9 p off f.size cap))).run P w'=.ok old.toArray w':=fun w' Lb=>by obtain⟨cs,b6,cf⟩:=GI w' Lb;rw[T1 G b6];exact cf
          have K1:((E.drop off).take (len*f.size)).length=len*f.size:=bu;cases u_ with
          |true=>
           simp only[er]at J;have:=eb rfl;unfold Be at J;cases g:(Nat.ble ((2*(len+n)+192)*f.bytes) 281474976710656&&Nat.ble (len+n) 4611686018427387904&&Nat.blt m.nx en)with
           |false=>rw[g]at J;simp at J
           |true=>rw[g]at J;simp only[er,cb,g9]at J;obtain⟨rfl,rfl⟩:=J;simp only[dz]at g;obtain⟨⟨c1,c2⟩,c3⟩:=g;exact grow _ old ai G K1 z (gP c1) (gP c2) (by simpa using c3)
          |false=>
           simp only[iK]at J;cases g:(wr&&Nat.beq F e&&Nat.blt b en&&l.all pd&&cap.isNone&&Nat.ble ((2*(len+n)+192)*f.bytes) 281474976710656&&Nat.ble (len+n) 4611686018427387904&&Nat.blt m.nx en)with
           |false=>rw[g]at J;simp at J
           |true=>
            rw[g]at J;simp only[er,cb,g9]at J;obtain⟨rfl,rfl⟩:=J;simp only[dz]at g;obtain⟨⟨⟨⟨⟨⟨⟨rfl,c2⟩,c3⟩,c4⟩,c5⟩,fk⟩,oq⟩,U⟩:=g;obtain rfl:=gV c2;have c3:b<en:=by simpa using c3
            have fk:=gP fk;have oq:=gP oq;have U:m.nx<en:=by simpa using U
            cases cap with
            |some q=>simp at c5
            |none=>
             by_cases K6:len+n<=i9 p off f.size none
             ·
              obtain⟨bQ,arr,bg,cs,ew,H,I,af,aM,bZ,fo,eX,eN⟩:=r.cells A;obtain rfl:p=bQ:=gn (ag.symm.trans ew);have aq:p.aU<w.heap.size:=(hl.1 H).1;have fS:=me bZ;have zB:=me t;have aj:(len+n)*f.size<=p.tot-off:=by have:(len+n)*f.size<=((p.tot-off)/f.size)*f.size:=oU _ K6;exact db this (Nat.div_mul_le_self _ _)
              rw[vH]at aj;have ao:off<=p.tot:=z;have xV:∀i,p.dA<=i->i<arr.size->¬(bg.1<=i/\i<bg.2):=fun i hi aq=>by have:=eN rfl i hi aq;simp only[World.frozen?,H]at this;obtain⟨ee,qm⟩:=bg;simp at this⊢;exact this
              have eE:=Yv (P:=P) p.aU (p.dA+off+len*f.size) F bg eI 0 w arr H (JD c4 t) fun j B=>⟨z,xV _ z z⟩;simp only[hG]at eE;have Y:=WV (P:=P) (ty:=o.type) (base:=⟨p.aU,p.dA+off,none⟩) T W hu aL V M S oA K6 (by rw[xr];exact eE);have kh:=r.jy m.nx (aZ _);have c':io ρ (dW σ m.nx ⟨p.aU,p.dA+off,p.tot-off⟩) ⟨p.aU,p.dA+off,p.tot-off⟩ (some (.cells (sw arr (p.dA+off+len*f.size) eI) F bg)) (.cells F ((E.drop off).take (len*f.size)++l) false true):=by
               refine⟨_,bg,rfl,by rw[Mm];simp only;omega,?_,(fun h=>by cases h),⟨_,pD (.dD kh) (uS G t),fun i hi=>?_⟩,fun _ i hi aq=>?_⟩
               ·simp only[ie,K1,X];omega
               ·simp only[ie,K1,X]at hi;have Wh:=me G;rw[K1]at Wh;simp only;rw[Q3 _ _ _ _ z];by_cases ak:i<len*f.size
                ·rw[bn z,w0 z,kr,eX (off+i) z];have:=T1 G (sU (len*f.size) (tS off bZ));rw[this];simp[oS,ak]
                ·rw[cv z,yM z];congr 1;omega
               ·rw[Mm]at aq;simp only at hi;exact xV i z aq
              obtain⟨N,bb⟩:=r.rename (q:=⟨p.aU,p.dA+off,p.tot-off⟩) A ag c3 U aq rfl c';refine .inl ⟨_,_,done _ _ _ _ True O Y,_,?_,N,bb⟩;simp[aE,dW,i9]
             ·
              have Q:=grow _ old ai G K1 z fk oq U;refine Q.mono fun D w' ⟨σ',b6,cf,ep⟩=>⟨σ',b6,?_⟩;have Gv:b≠m.nx:=fun e=>by have:=r.jy m.nx (aZ _);rw[←e,ag]at this;cases this
              have O4:∀j,((m.dD b none).add (.cells F ((E.drop off).take (len*f.size)++l) false true)).cK j=((m.add (.cells F ((E.drop off).take (len*f.size)++l) false true)).dD b none).cK j:=fun j=>by
               rw[ay.U5 _ _ _ (show(m.dD b none).nx<en from U),ay.vb m b j none c3,ay.vb _ b j none c3,ay.U5 _ _ _ U];by_cases ak:j=m.nx
               ·subst ak;simp[ay.dD,ht Gv]
               ·by_cases aJ:j=b
                ·subst aJ;simp[ay.dD,Gv]
                ·simp[ay.dD,ak,aJ]
              obtain⟨et,fA⟩:=cf.drop c3;have C:=ep.trans fA;exact⟨⟨fun j y B=>et.aU j y (by rw[←O4];exact B),fun j fK y mN q ic B f_=>et.inj j fK y mN q ic (by rw[←O4];exact B) (by rw[←O4];exact f_),fun j B=>et.jy j B⟩,
               ⟨C.ext,C.eI,C.nx,C.size,C.kept,fun k ⟨j,y,q,B,az,e⟩=>C.nD k ⟨j,y,q,by rw[←O4];exact B,az,e⟩,C.os,C.output,C.tape⟩⟩
        ·cases J
   ·cases J
 ·cases J
def To(e:TypeId)(zs:List K)(esz bytes:Nat):List K->ay->Option (K×ay)
 |[.bS,.int .i64 (.ofNat n)],h=>bif Nat.beq n 0 then none else Be e esz bytes h [] n (B2 n zs)
 |_,_=>none
theorem atV{w:World}{c:Array TypeId}{ty s e g:TypeId}{k:IntKind}{n:Nat}{a:TypeInfo}{ae:Value}(u:c[0]? =some s)(E:c[1]? =some g)(hu:P.underlying s=some (.slice e))(d:P.info? e=some a)(t:a.zero=some ae)(x:ae.cells.size=a.size)(f:a.size≠0) (C:P.underlying g=some (.int k))(r:n≠0)(A:(2*n+192)*a.bytes<=281474976710656)(G:n<=4611686018427387904):∃cap,n<=cap/\(Builtin.append_ c ty #[.slice none 0 0,.int .i64 (.ofNat n)]).run P w=.ok (.slice (some ⟨w.heap.size,0,none⟩) n cap) {w with heap:=w.heap.push (.cells (su n ae.cells.toList++su (cap-n) ae.cells.toList).toArray e),drawn:=w.drawn+1}:=by
 refine⟨(Question.appendCap (0+n) 0 e).cut (w.tape w.drawn (.appendCap (0+n) 0 e)),by simp[Question.cut],?_⟩;have y:=akn (show 0<0+n by omega);have J:Builtin.nextslicecap (0+n) 0*a.bytes<=281474976710656:=db (oU _ y) (by simpa using A);have q:IntKind.i64.max=9223372036854775807:=rfl;have j:IntKind.i64.wrap (Int.ofNat n)=Int.ofNat n:=by have:Int.ofNat n=(n:Int):=rfl;rw[this];simp[IntKind.wrap,IntKind.bits,IntKind.signed];omega
 have i:¬Builtin.nextslicecap (0+n) 0*a.bytes>2^48:=by have:(2:Nat)^48=281474976710656:=rfl;rw[this];omega
 have B:¬(Int.ofNat n*(a.bytes:Int)>2^48):=by have H:n*a.bytes<=(2*n+192)*a.bytes:=oU _ z;have I:Int.ofNat n*(a.bytes:Int)=((n*a.bytes:Nat):Int):=am;have l:(2:Int)^48=281474976710656:=rfl;rw[I,l];omega
 have a0:(#[Value.slice none 0 0,.int .i64 (.ofNat n)]:Array Value)[0]? =some (.slice none 0 0):=rfl;have bO:(#[Value.slice none 0 0,.int .i64 (.ofNat n)]:Array Value)[1]? =some (.int .i64 (.ofNat n)):=rfl;have hcut:∀w':World,(choose (.appendCap (0+n) 0 e)).run P w'=.ok ((Question.appendCap (0+n) 0 e).cut (w'.tape w'.drawn (.appendCap (0+n) 0 e))) {w' with drawn:=w'.drawn+1}:=fun w'=>by simp[run_choose,Question.forced]
 have b:∀w',(typeInfo e).run P w'=.ok a w':=fun w'=>by simp[typeInfo,d]
 have F:∀w',(zeroValue e).run P w'=.ok ae w':=fun w'=>by simp[zeroValue,b,t]
 have m:∀w',(asInt (.int .i64 (.ofNat n))).run P w'=.ok (Int.ofNat n) w':=fun w'=>by simp[asInt,asIntOf]
 have D:¬(Int.ofNat n<0):=by have:Int.ofNat n=(n:Int):=rfl;omega
 have o:¬(n*a.size=0):=Nat.mul_ne_zero r f;simp only[Builtin.append_,u,a0,bO,E];simp only[d',gF hu,dX,n6 d,gF C,eQ,sA,m,j];rw[bn D];simp only[d',b,dX];rw[bn B];simp only[d',eQ,dX,Int.toNat,RE,p0,oV];rw[bn z];simp only[d',b,dX];rw[bn (by rw[q];omega)];simp only[d',b,dX];rw[bn i];simp only[d',hcut,dX,b,aa3];rw[bn o];simp only[Builtin.firstCells,eQ,d',dX,F,newRow,RG,anc ae.cells _ (show ae.cells.size≠0 by rw[x];exact f)];simp[Cp]
theorem aqQ{o:Oper}{c:Call}{s e y:TypeId}{k:IntKind}{b:TypeInfo}{ae:Value}{zs:List K}(h:o.op=.call c)(L:c.callee=.builtin .append)(F:c.argTypes[0]? =some s)(M:c.argTypes[1]? =some y)(hu:P.underlying s=some (.slice e))(aL:P.info? e=some b) (C:b.zero=some ae)(g:ae.cells.size=b.size)(q:b.size≠0)(H:P.underlying y=some (.int k))(B:qw ae.cells.toList=some zs):y2 P ρ o (To e zs b.size b.bytes):=by
 intro σ vs d a w v S Q m r J;rw[wT h L]at m;have done:∀(u x i:Value) (w':World) (R:Prop),(c.args.map (dT a)).toList=[u,x]->(Builtin.append_ c.argTypes o.type #[u,x]).run P w=.ok i w'->(execOp (dT a) o).run P w=.ok (.value i) w':=fun u x i w' _ O Y=>by exact P4
 unfold To at J;split at J
 ·rename_i n;obtain⟨N,T,A,t,O⟩:=j6 m;simp only[aE,cb]at A t;subst A;subst t;cases ab:Nat.beq n 0 with
  |true=>rw[ab]at J;simp at J
  |false=>
   rw[ab]at J;simp only[iK]at J;have I:n≠0:=fun e=>by subst e;simp at ab
   unfold Be at J;cases f:(Nat.ble ((2*n+192)*b.bytes) 281474976710656&&Nat.ble n 4611686018427387904&&Nat.blt d.nx en)with
   |false=>rw[f]at J;simp at J
   |true=>
    rw[f]at J;simp only[er,cb,g9]at J;obtain⟨rfl,rfl⟩:=J;simp only[dz]at f;obtain⟨⟨c1,c2⟩,c3⟩:=f;have c1:=gP c1;have c2:=gP c2;have c3:d.nx<en:=by simpa using c3
    obtain⟨cap,G,E⟩:=atV (w:=w) (ty:=o.type) F M hu aL C g q H I c1 c2;have z:bU ρ σ zs=some ae.cells.toList:=BV B;have l:=me z;have j:=r.jy d.nx (aZ _);have D:=grown (w:=w) (e:=e) (esz:=b.size) (need:=n) (cap:=cap) (zs:=ae.cells.toList) j (Yi z n) (by rw[Yj];simp at l;rw[←l,g]) (by simpa using g) G;refine .inl ⟨_,_,done _ _ _ _ True O E,dW σ d.nx ⟨w.heap.size,0,cap*b.size⟩,?_,r.add j c3 (oT _) (Cv _) D,.add j c3 (aZ _) (oT _)⟩;have:cap*b.size/b.size=cap:=RV _ (M3 q);simp[aE,dW,i9,this]
 ·cases J
end
end Go.ch
namespace Go.ch
open Go.Proofs.Tryz
section
variable {P:Program} {ρ:b4}
def rZ(op:BinOp)(b:Bool):Option K:=match op with
 |.eql=>some (.bool b)
 |.neq=>some (.bool (!b))
 |_=>none
theorem Ga{o:Oper}{op:BinOp}{t i:TypeId}{x y:Operand}(h:o.op=.binOp op t x y i){a:Array Value}{w:World}{u v:Value}{b:Bool}{r:K}{σ:bl}(hu:dT a x=u)(J:dT a y=v)(e:∀op,(eqGuard op t x y u v).run P w=.ok () w) (g:∀n,(Op.equalIn (n+2) t u v).run P w=.ok b w)(H:binOp .eql t u v=(do pure (.bool (←Op.equal t u v))))(I:binOp .neq t u v=(do pure (.bool (!(←Op.equal t u v)))))(d:rZ op b=some r):∃c,aE ρ σ r=some c/\(execOp (dT a) o).run P w=.ok (.value c) w:=by
 have f:(Op.equal t u v).run P w=.ok b w:=g 9998;cases op<;>simp[rZ]at d
 ·subst d;exact⟨_,rfl,by simp[execOp,h,hu,J,e,H,f]⟩
 ·subst d;exact⟨_,rfl,by simp[execOp,h,hu,J,e,I,f]⟩
def UB(op:BinOp):List K->Option K
 |[.pV,.pV]=>rZ op true
 |[.jo _ _,.pV]=>rZ op false
 |[.pV,.jo _ _]=>rZ op false
 |[.jo b o,.jo a c]=>bif Nat.beq b a then rZ op (Nat.beq o c)else none
 |_=>none
theorem atb{o:Oper}{op:BinOp}{t l e:TypeId}{x y:Operand}{f:TypeInfo}(h:o.op=.binOp op t x y l)(hd:P.underlying t=some (.pointer e))(g:P.info? e=some f)(i:f.size≠0):ku P ρ o (UB op):=by
 intro σ s a w r u V J;have kN:∀p q op,(eqGuard op t x y (.pointer p) (.pointer q)).run P w=.ok () w:=fun p q op=>Ds (.inl am) am;unfold UB at J;split at J
 ·exact ajF
 ·obtain⟨sW,gr,jz,fC,O⟩:=j6 V;simp[fm,h,Op.operands]at O;obtain⟨p,ag,rfl⟩:=uU jz;simp only[aE,cb]at fC;subst fC;exact P1
 ·obtain⟨sW,gr,jz,fC,O⟩:=j6 V;simp[fm,h,Op.operands]at O;obtain⟨p,ag,rfl⟩:=uU fC;simp only[aE,cb]at jz;subst jz;exact P1
 ·rename_i b c k d;cases A:Nat.beq b k with
  |false=>rw[A]at J;simp at J
  |true=>
   rw[A]at J;simp only[er]at J;obtain rfl:=gV A;obtain⟨sW,gr,jz,fC,O⟩:=j6 V;simp[fm,h,Op.operands]at O;obtain⟨p,ag,rfl⟩:=uU jz;obtain⟨q,j,rfl⟩:=uU fC;obtain rfl:p=q:=gn (ag.symm.trans j);have m:((⟨p.aU,p.dA+c,none⟩:Addr)==⟨p.aU,p.dA+d,none⟩)=Nat.beq c d:=by
    by_cases ak:c=d
    ·subst ak;simp
    ·rw[FP ak];simp<;>omega
   exact Ga h O.1 O.2 (kN _ _) (fun n=>by simp[Op.equalIn,gF hd,n6 g,i,sameAddr,m]) rfl rfl J
 ·cases J
def UC(op:BinOp):List K->Option K
 |[.bS,.bS]=>rZ op true
 |[.slice _ _ _ _ _,.bS]=>rZ op false
 |[.jx _ _ _ _,.bS]=>rZ op false
 |_=>none
theorem atc{o:Oper}{op:BinOp}{t k e:TypeId}{x y:Operand}(h:o.op=.binOp op t x y k)(hd:P.underlying t=some (.slice e)):ku P ρ o (UC op):=by
 intro σ s a w r l d J;have kN:∀bO cu a3 j i co op,(eqGuard op t x y (.slice bO cu a3) (.slice j i co)).run P w=.ok () w:=fun _ _ _ _ _ _ op=>Ds (.inl am) am;unfold UC at J;split at J
 ·obtain⟨g,f,c,b,O⟩:=j6 d;simp[fm,h,Op.operands]at O;simp only[aE,cb]at c b;subst c;subst b;exact XF
 ·obtain⟨g,f,c,b,O⟩:=j6 d;simp[fm,h,Op.operands]at O;obtain⟨p,ag,rfl⟩:=xz c;simp only[aE,cb]at b;subst b;exact XF
 ·obtain⟨g,f,c,b,O⟩:=j6 d;simp[fm,h,Op.operands]at O;simp only[aE,ig]at c;obtain⟨p,ag,rfl⟩:=c;simp only[aE,cb]at b;subst b;exact XF
 ·cases J
def Uz(op:BinOp):List K->Option K
 |[.uo,.uo]=>rZ op true
 |[.map _,.uo]=>rZ op false
 |_=>none
theorem ata{o:Oper}{op:BinOp}{t b k e:TypeId}{x y:Operand}(h:o.op=.binOp op t x y b)(hd:P.underlying t=some (.map k e)):ku P ρ o (Uz op):=by
 intro σ s a w r c V J;have kN:∀p q op,(eqGuard op t x y (.map p) (.map q)).run P w=.ok () w:=fun p q op=>Ds (.inl am) am;unfold Uz at J;split at J
 ·exact ajF
 ·obtain⟨sW,gr,jz,fC,O⟩:=j6 V;simp[fm,h,Op.operands]at O;simp only[aE,cb,ig]at jz fC;obtain⟨p,ag,rfl⟩:=jz;subst fC;exact P1
 ·cases J
def Ux(op:BinOp):List K->Option K
 |[.wS,.wS]=>rZ op true
 |[.fn _ _ _,.wS]=>rZ op false
 |_=>none
theorem as_{o:Oper}{op:BinOp}{t e:TypeId}{b c:Array TypeId}{d:Bool}{x y:Operand}(h:o.op=.binOp op t x y e)(hd:P.underlying t=some (.func b c d)):ku P ρ o (Ux op):=by
 intro σ s a w r f V J;unfold Ux at J;split at J
 ·exact ajV
 ·obtain⟨sW,gr,jz,fC,O⟩:=j6 V;simp[fm,h,Op.operands]at O;simp only[aE]at jz fC;split at jz<;>cases jz;cases fC;exact Ga h O.1 O.2 (fun op=>Ds (.inl am) am) (fun n=>by simp[Op.equalIn,gF hd]) rfl rfl J
 ·cases J
def Uw(op:BinOp):List K->Option K
 |[.bool a,.bool b]=>rZ op (a==b)
 |_=>none
theorem as9{o:Oper}{op:BinOp}{t b:TypeId}{x y:Operand}(h:o.op=.binOp op t x y b)(hd:P.underlying t=some .bool):ku P ρ o (Uw op):=by
 intro σ s a w r c V J;unfold Uw at J;split at J
 ·exact ajV
 ·cases J
def zp:K->K->Option Bool
 |.int k a,.int j b=>bif decide (k=j)then some (uZ a b)else none
 |.str a,.str b=>some (tk a b)
 |.bool a,.bool b=>some (a==b)
 |_,_=>none
def qt:Nat->K->Bool
 |0,.int _ _=>true
 |1,.str _=>true
 |2,.bool _=>true
 |_,_=>false
def J4(aK a:List K):List (Nat×Nat)->Option Bool
 |[]=>some true
 |(o,b)::l=>match aK[o]?,a[o]? with
  |some x,some y=>bif qt b x then match zp x y with
   |some true=>J4 aK a l
   |some false=>some false
   |none=>none
   else none
  |_,_=>none
def UD(op:BinOp)(c:List (Nat×Nat)):List K->Option K
 |[.agg aK,.agg a]=>match J4 aK a c with
  |some b=>rZ op b
  |none=>none
 |_=>none
def pY:TypeDesc->Option Nat
 |.int _=>some 0
 |.string=>some 1
 |.bool=>some 2
 |_=>none
def Gd(P:Program):List Field->Option (List (Nat×Nat))
 |[]=>some []
 |f::a=>match P.underlying f.type with
  |some d=>match pY d,Gd P a with
   |some t,some r=>if f.name= "_" then none else some ((f.offset,t)::r)
   |_,_=>none
  |none=>none
theorem afb{σ:bl}{t:TypeId}{d:TypeDesc}{i:Nat}{x y:K}{g l:Value}{b:Bool}{n:Nat}{w:World}(hd:P.underlying t=some d)(ah:pY d=some i)(a:aE ρ σ x=some g)(c:aE ρ σ y=some l)(e:qt i x=true)(h:zp x y=some b): (Op.equalIn (n+1) t g l).run P w=.ok b w:=by
 unfold zp at h;split at h
 ·rename_i k p j q;by_cases f:k=j
  ·subst f;simp at h;subst h;obtain rfl:=m0 a;obtain rfl:=m0 c;cases d<;>simp[pY]at ah<;>subst ah<;>simp[qt]at e;rename_i m;rw[run_equalIn_int w n t k m p q hd,A9];rfl
  ·simp[f]at h
 ·cases h;obtain⟨o,rfl⟩:=qd a;obtain⟨r,rfl⟩:=qd c;cases d<;>simp[pY]at ah<;>subst ah<;>simp[qt]at e;rw[run_equalIn_string w n t _ _ hd,OC o r]
 ·cases h;simp only[aE,cb]at a c;subst a;subst c;cases d<;>simp[pY]at ah<;>subst ah<;>simp[qt]at e;exact run_equalIn_bool' w n t _ _ hd
 ·cases h
theorem al2{w:World}{t:TypeId}{d:TypeDesc}{b:Nat}(hd:P.underlying t=some d)(ah:pY d=some b){cs:Array Value}{o:Nat}{c:Value}(a:cs[o]? =some c):(part t cs o).run P w=.ok c w:=by
 have:tM d=false:=by cases d<;>simp[pY]at ah<;>rfl
 simp[part,QY hd,this,a]
theorem afc{σ:bl}{aK t:List K}{l m:List Value}(q:bU ρ σ aK=some l)(s:bU ρ σ t=some m)(n:Nat)(w:World):∀{j:List Field} {g:List (Nat×Nat)} {b:Bool},Gd P j=some g->J4 aK t g=some b->
  (Op.eqFields (n+1) l.toArray m.toArray j).run P w=.ok b w
 |[],g,b,a,h=>by
  simp[Gd]at a;subst a
  simp[J4]at h;subst h
  simp[Op.eqFields]
 |f::j,g,b,a,h=>by
  simp only[Gd]at a
  split at a
  ·rename_i d hd
   split at a
   ·rename_i G r c D
    split at a
    ·cases a
    ·rename_i p
     cases a
     simp only[J4]at h
     split at h
     ·rename_i x y H C
      obtain⟨c1,E,u⟩:=xy q H
      obtain⟨c2,F,B⟩:=xy s C
      have z:=al2 (P:=P) (w:=w) hd c (cs:=l.toArray) (o:=f.offset) (by simpa using E)
      have A:=al2 (P:=P) (w:=w) hd c (cs:=m.toArray) (o:=f.offset) (by simpa using F)
      cases e:qt G x with
      |false=>rw[e]at h;simp at h
      |true=>
       rw[e]at h
       simp only[er]at h
       split at h
       ·rename_i i
        have k:=afb (P:=P) (n:=n) (w:=w) hd c u B e i
        simp only[Op.eqFields,p,ne_eq,not_false_eq_true,sA,d',z,A,k,dX,RE,p0,oV]
        exact afc q s n w D h
       ·rename_i i
        cases h
        have k:=afb (P:=P) (n:=n) (w:=w) hd c u B e i
        simp[Op.eqFields,p,z,A,k]
       ·cases h
     ·cases h
   ·cases a
  ·cases a
theorem ate{o:Oper}{op:BinOp}{t p:TypeId}{x y:Operand}{d:Array Field}{g:List (Nat×Nat)}(h:o.op=.binOp op t x y p)(hd:P.underlying t=some (.struct d))(l:P.stoodInHeld t=false)(q:P.eqGuardType P.depth t=false)(k:Gd P d.toList=some g):ku P ρ o (UD op g):=by
 intro σ s a w r z j J;unfold UD at J;split at J
 ·rename_i aK B;split at J
  ·rename_i b A;obtain⟨F,C,f,e,c⟩:=j6 j;simp[fm,h,Op.operands]at c;simp only[aE,ig]at f e;obtain⟨D,m,rfl⟩:=f;obtain⟨E,u,rfl⟩:=e;have i:P.fieldsOf t=d:=by simp[Program.fieldsOf,hd]
   refine Ga h c.1 c.2 (fun op=>run_eqGuard_agg w op t x y _ _ q) (fun n=>?_) rfl rfl J;rw[run_equalIn_struct w (n+1) t _ _ (by rw[i];exact hd) l,i];exact afc m u n w k A
  ·cases J
 ·cases J
end
end Go.ch
namespace Go.ch
def oc(ρ:b4)(σ:bl)(h:ay)(w:World)(v:K)(a:ay)(c:Value)(w':World):Prop:=∃σ',aE ρ σ' v=some c/\c6 ρ σ' a w'/\jj σ h w σ' a w'
def ls(P:Program)(ρ:b4)(f:FuncId)(F:List K->ay->Option (K×ay)):Prop:=
 ∀σ args h v a cs w,jE P σ->bU ρ σ args=some cs->c6 ρ σ h w->F args h=some (v,a)->
  (∃c w',(callFunc f cs.toArray).run P w=.ok (.value c) w'/\oc ρ σ h w v a c w')∨
  ((callFunc f cs.toArray).run P w=.ok (.enter f cs.toArray) w/\uJ P (Frame.enter P f cs.toArray .normal) w (oc ρ σ h w v a))
structure iN where
 call:FuncId->List K->ay->Option (K×ay)
 yield:Nat->List K->ay->Option (K×ay)
def adf(P:Program)(ρ:b4)(F:Nat->List K->ay->Option (K×ay)):Prop:=
 ∀σ b args h v a cs w p,jE P σ->bU ρ σ args=some cs->c6 ρ σ h w->σ b=some p->F b args h=some (v,a)->
  ∃f t x y,(Instr.yield p.aU cs.toArray).run P w=.ok (.round p.aU f t x y) w/\uJ P (Frame.round p.aU f t x y .normal) w (oc ρ σ h w v a)
structure rB (P:Program) (ρ:b4) (E:iN):Prop where
 call:∀f,ls P ρ f (E.call f)
 yield:adf P ρ E.yield
def Jw(E:iN):List K->ay->Option (K×ay)
 |.fn f first cap::args,h=>E.call f (first++(args++cap)) h
 |.rt b::args,h=>E.yield b args h
 |_,_=>none
section
variable {P:Program} {ρ:b4}
theorem arw{E:iN}(y:rB P ρ E){o:Oper}{c:Call}{x:Operand}(h:o.op=.call c)(j:c.callee=.value x):y2 P ρ o (Jw E):=by
 intro σ s q a w v r n k u J;have A:fm o a=dT a x::c.args.toList.map (dT a):=by simp[fm,h,Op.operands,Call.operands,j]
 rw[A]at k;unfold Jw at J;split at J
 ·rename_i f first cap args
  obtain⟨G,i,H,I,g⟩:=uT k;simp only[pk]at g;obtain⟨ak,l⟩:=g;simp only[aE]at H;split at H
  ·rename_i z L B M;cases H;have K:=uS B (uS I M);have m:(execOp (dT a) o).run P w=(callFunc f (z++(i++L)).toArray).run P w:=by simp only[execOp,h,resolve,j,ak,Deferred.ofValue,d',eQ,dX,invoke];congr 2;apply vE;simp[←l]
   rcases y.call f σ _ q v r _ w n K u J with⟨F,w',d,e⟩|⟨d,e⟩
   ·exact .inl ⟨F,w',by rw[m];exact d,e⟩
   ·exact .inr (.inr (.inl ⟨f,_,w,by rw[m];exact d,e⟩))
  ·cases H
 ·rename_i b args;obtain⟨G,i,H,I,g⟩:=uT k;simp only[pk]at g;obtain⟨ak,l⟩:=g;simp only[aE,ig]at H;obtain⟨p,ag,rfl⟩:=H;obtain⟨f,t,D,C,d,e⟩:=y.yield σ b _ q v r i w p n I u ag J;refine .inr (.inr (.inr ⟨p.aU,f,t,D,C,w,?_,e⟩));simp only[execOp,h,resolve,j,ak,Deferred.ofValue,d',eQ,dX,invoke];have:(#[]++c.args.map (dT a))=i.toArray:=by apply vE;simp[←l]
  rw[this];exact d
 ·cases J
def vw:List K->Nat->S->S
 |[],_,s=>s
 |v::l,i,s=>vw l (i+1) (put i v s)
theorem afz{t:Nat}(ah:t<256):∀{l:List K} {i:Nat} {s:S},i+l.length<=256->g t (vw l i s)=if i<=t/\t<i+l.length then l.getD (t-i) pz else g t s
 |[],i,s,_=>by simp[vw];intro H I;omega
 |v::l,i,s,h=>by
  simp only[mP]at h
  rw[vw,afz ah z]
  by_cases e:t=i
  ·subst e
   rw[bn z,cv am]
   simp only[UZ,Nat.sub_self,List.getD_cons_zero]
  ·by_cases H:i+1<=t/\t<i+1+l.length
   ·rw[cv H,cv bu]
    have:t-i=(t-(i+1))+1:=z
    rw[this];simp
   ·rw[bn H,bn bu]
    exact UY t i v s z z e
theorem mY.g7{σ:bl}{args:List K}{cs:List Value}{av:Nat}(a:bU ρ σ args=some cs)(e:args.length<=av)(c:av<=256):mY ρ σ av (vw args 0 bX) (cs.toArray++Array.replicate (av-cs.toArray.size) undef):=by
 have d:=me a;refine⟨bu,c,fun i hi=>?_⟩;rw[afz z z];by_cases h:i<args.length
 ·rw[cv z,abh];have b:args[i]? =some (args.getD i pz):=by simp[List.getD,h]
  obtain⟨x,H,I⟩:=xy a b;rw[I];have:(cs.toArray++Array.replicate (av-cs.toArray.size) undef)[i]? =some x:=by rw[anm bu];simpa using H
  rw[anl,this];rfl
 ·rw[bn z];have:g i bX=pz:=atQ i;rw[this,JI];have:(cs.toArray++Array.replicate (av-cs.toArray.size) undef)[i]? =some undef:=by rw[Array.getElem?_append_right bu,Array.getElem?_replicate,cv bu]
  rw[anl,this];rfl
def JV:List Nat->ay->Option ay
 |[],h=>some h
 |b::l,h=>match h.cK b with
  |some .deferred=>bif Nat.blt b en then JV l (h.dD b none)else none
  |_=>none
inductive rR where
 |tmp (t:Nat)
 |cell (t:Nat) (agg:Bool) (n:Nat)
def Yk(s:S)(h:ay):rR->Option K
 |.tmp t=>some (g t s)
 |.cell t agg n=>BN agg n [g t s] h
def L'(s:S)(h:ay):List rR->Option (List K)
 |[]=>some []
 |r::l=>match Yk s h r,L' s h l with
  |some x,some y=>some (x::y)
  |_,_=>none
def Er:List K->K
 |[v]=>v
 |l=>.tup l
def A_(rs:List rR)(x:gp):Option (K×ay):=match JV x.gA x.h with
 |some a=>match L' x.s a rs with
  |some l=>some (Er l,a)
  |none=>none
 |none=>none
def Ba(av:Nat)(rs:List rR)(F:jH)(args:List K)(h:ay):Option (K×ay):=bif Nat.ble args.length av then match F ⟨vw args 0 bX,h,[]⟩with
 |some (.hD,x)=>A_ rs x
 |some (.ret,x)=>A_ rs x
 |_=>none
 else none
def Ho(a:Array Value):ResultVar->Sem Value
 |.tmp t=>pure (a.getD t undef)
 |.cell b t=>do loadVar t (←asAddr (a.getD b undef))
theorem alC(fn:Func)(a:Array Value):results fn a=(do let vs ←fn.results.mapM (Ho a);pure (if h:vs.size=1 then vs[0]else .tuple vs)):=by
 unfold results;congr 2
def apH(P:Program)(av:Nat):ResultVar->rR->Prop
 |.tmp t,.tmp c=>t=c/\t<av
 |.cell a t,.cell b agg n=>a=b/\a<av/\∃d i,P.underlying t=some d/\P.info? t=some i/\agg=tM d/\n=i.size
 |_,_=>False
def I0(P:Program)(av:Nat):List ResultVar->List rR->Prop
 |[],[]=>True
 |r::l,x::m=>apH P av r x/\I0 P av l m
 |_,_=>False
theorem Yl{σ:bl}{s:S}{h:ay}{a:Array Value}{w:World}{av:Nat}(A:jE P σ)(j:mY ρ σ av s a)(B:c6 ρ σ h w):∀{l:List ResultVar} {m:List rR} {vs:List K},I0 P av l m->L' s h m=some vs->
  ∃cs,bU ρ σ vs=some cs/\(l.mapM (Ho a):Sem (List Value)).run P w=.ok cs w
 |[],[],vs,_,J=>by simp[L']at J;subst J;exact⟨[],rfl,am⟩
 |[],_::_,_,h,_=>h.elim
 |_::_,[],_,h,_=>h.elim
 |r::l,x::m,vs,⟨H,I⟩,J=>by
  simp only[L']at J
  split at J
  ·rename_i y M e G
   cases J
   obtain⟨cs,u,z⟩:=Yl A j B I G
   cases r with
   |tmp t=>
    cases x with
    |tmp R=>
     obtain⟨rfl,aq⟩:=H
     simp[Yk]at e
     subst e
     refine⟨a.getD t undef::cs,by simp[bU,j.2.2 t aq,u],?_⟩
     simp only[abc,d',Ho,eQ,dX,z]
    |cell _ _ _=>exact H.elim
   |cell b t=>
    cases x with
    |tmp _=>exact H.elim
    |cell Q agg n=>
     obtain⟨rfl,aq,d,i,hd,hi,rfl,rfl⟩:=H
     simp only[Yk]at e
     have E:=aiI (P:=P) (ρ:=ρ) (o:={dst:=none,op:=.load t (.tmp b),type:=0,pos:= "",after:=#[],guard:=none}) rfl hd hi σ [g b s] h a w y A (by simp[fm,Op.operands,bU,j.2.2 b aq,dT]) B e
     obtain⟨c,L,f⟩:=E
     refine⟨c::cs,by simp[bU,L,u],?_⟩
     have F:(do loadVar t (←asAddr (a.getD b undef)):Sem Value).run P w=.ok c w:=by
      unfold BN at e
      split at e
      ·rename_i N off D
       have C:=j.2.2 b aq
       simp only[pk,yS]at D
       rw[D]at C
       obtain⟨p,ag,k⟩:=uU C
       simp only[execOp,dT,k,Instr.loadAt,Instr.sureAddr,d',eQ,dX]at f
       simp only[k,asAddr,d',eQ,dX]
       generalize (loadVar t ⟨p.aU,p.dA+off,none⟩).run P w=q at f
       cases q with
       |ok O w'=>simp at f;obtain⟨rfl,rfl⟩:=f;rfl
       |halt _ _=>simp at f
      ·cases e
     rw[abc,d']
     simp only[Ho]
     rw[F]
     simp only[dX,d',z,eQ]
  ·cases J
end
end Go.ch
namespace Go.ch
open Go.Proofs.Tryz
def wl(b:lr)(a:Array Value)(ds:List Deferred)(todo:List Item):Frame:={fr b a ds todo with mode:=.returning}
section
variable {P:Program} {ρ:b4} {b:lr} {a:Array Value} {ds:List Deferred} {k:List Item} {cs:List Frame} {w:World}
theorem amw(A:b.roundOf=none):step P (lone (fr b a ds (.code .ret::k)) cs w)=.next (lone (wl b a ds (.code .ret::k)) cs w):=
 mp (by simp[stepG,stepG.exec,fr,wl,A])
theorem ams(A:b.roundOf=none):step P (lone (fr b a ds []) cs w)=.next (lone (wl b a ds []) cs w):=
 mp (by simp[stepG,stepG.exec,fr,wl,A])
theorem Md{r:Nat}{o:Obj}(h:w.heap[r]? =some o)(d:∀c e f,o≠ .cells c e f):(getObj r).run P w=.ok o w:=by
 cases o<;>first|exact(d _ _ _ rfl).elim|simp only[getObj,Sem.run,h]
theorem ED{r:Nat}{o d:Obj}(h:w.heap[r]? =some o)(g:∀c e f,o≠ .cells c e f):(setObj r d).run P w=.ok () (gj w r d):=by
 cases o<;>first|exact(g _ _ _ rfl).elim|(simp only[setObj,Sem.run,h];rfl)
theorem aCS{r:Nat}(h:w.heap[r]? =some (.deferred (some []))): step P (lone (wl b a ({target:=.collected r,args:=#[]}::ds) k) cs w)=.next (lone (wl b a ds k) cs (gj w r (.deferred none))):=by
 have c:(Instr.takeDeferred r).run P w=.ok [] (gj w r (.deferred none)):=by simp[Instr.takeDeferred,Md (P:=P) h,ED (P:=P) h]
 exact mp (by simp[stepG,unwind,wl,fr,MO,c])
theorem c6.frame{σ:bl}{h:ay}(r:c6 ρ σ h w){w':World}(e:∀k,k8 σ h k->w'.heap[k]? =w.heap[k]?):c6 ρ σ h w':=
 ⟨fun j y c=>by
  obtain⟨p,ag,d⟩:=r.aU j y c
  exact⟨p,ag,by rw[e p.aU ⟨j,y,p,c,ag,rfl⟩];exact d⟩,r.inj,r.jy⟩
theorem c6.U6{σ:bl}{h:ay}(r:c6 ρ σ h w){j:Nat}{x:em}{p:lT}(c:h.cK j=some x)(ag:σ j=some p)(d:j<en)(o:Obj):c6 ρ σ (h.dD j none) (gj w p.aU o)/\jj σ h w σ (h.dD j none) (gj w p.aU o):=by
 obtain⟨l,m⟩:=r.drop d;have n:=fun i=>ay.vb h j i none d;have st:∀k,k8 σ (h.dD j none) k->(gj w p.aU o).heap[k]? =w.heap[k]? :=fun k ⟨i,y,q,hi,g,e⟩=>by
  rw[n]at hi;by_cases ak:i=j
  ·rw[cv ak]at hi;cases hi
  ·rw[bn ak]at hi;have:=r.inj i j y x q p hi c g ag ak;rw[e]at this;exact Xr
 refine⟨l.frame st,⟨.refl _,fun _ H I=>(I H).elim,aZ _,by simp[gj],fun k s f=>?_,m.nD,rfl,rfl,rfl⟩⟩;have:p.aU≠k:=fun e=>f ⟨j,x,p,c,ag,e⟩;simp[gj,yF,this]
theorem aar:∀{gA:List Nat} {h d:ay} {σ:bl} {w:World} {ds:List Deferred},JV gA h=some d->uV σ gA=some ds->c6 ρ σ h w->
  ∃w',c6 ρ σ d w'/\jj σ h w σ d w'/\Steps P (lone (wl b a ds k) cs w) (lone (wl b a [] k) cs w')
 |[],h,d,σ,w,ds,hd,c,e=>by
  simp[JV]at hd;subst hd
  simp[uV]at c;subst c
  exact⟨w,e,.refl _ _ _,.refl _ _⟩
 |j::l,h,d,σ,w,ds,hd,c,e=>by
  simp only[JV]at hd
  split at hd
  ·rename_i f
   cases aq:Nat.blt j en with
   |false=>rw[aq]at hd;simp at hd
   |true=>
    rw[aq]at hd
    simp only[er]at hd
    have g:j<en:=by simpa using aq
    simp only[uV]at c
    split at c
    ·rename_i p y ag m
     cases c
     obtain⟨q,n,s⟩:=e.aU j _ f
     obtain rfl:p=q:=gn (ag.symm.trans n)
     obtain⟨_,x⟩:=s
     obtain⟨i,r⟩:=e.U6 f ag g (.deferred none)
     obtain⟨w',o,t,u⟩:=aar hd m i
     exact⟨w',o,r.trans t,.head (aCS x) u⟩
    ·cases c
  ·cases hd
theorem atM{f:FuncId}{fn:Func}{body:Code}{av:Nat}{rs:List rR}{F:jH}(o:P.funcs[f]? =some fn)(A:fn.body=some body)(V:fn.name≠ "runtime.NumGoroutine")(zC:fn.ntmps=av)(dx:av<=256)(uh:I0 P av fn.results.toList rs) {B:bl->lr->Prop}(X:∀σ,B σ ⟨f,.normal,none⟩)(ck:mc P ρ av B body F):ls P ρ f (Ba av rs F):=by
 intro σ args h v s cs w R h8 Y J;right;have U:(callFunc f cs.toArray).run P w=.ok (.enter f cs.toArray) w:=by simp[callFunc,o,V,A]
 refine⟨U,?_⟩;unfold Ba at J;cases q:Nat.ble args.length av with
 |false=>rw[q]at J;simp at J
 |true=>
  rw[q]at J;simp only[er]at J;have L:=gP q;intro c g;have N:Frame.enter P f cs.toArray .normal=fr ⟨f,.normal,none⟩ (cs.toArray++Array.replicate (av-cs.toArray.size) undef) [] [.code body]:=by simp[Frame.enter,fr,o,A,zC]
  rw[N];have eE:xn P ρ av σ ⟨vw args 0 bX,h,[]⟩ (cs.toArray++Array.replicate (av-cs.toArray.size) undef) [] w:=⟨.g7 h8 L dx,Y,rfl,R⟩;have C:∀(e:aD) (x:gp),(∀id,e≠ .exit id)->F ⟨vw args 0 bX,h,[]⟩=some (e,x)->A_ rs x=some (v,s)->
    ∃u w',oc ρ σ h w v s u w'/\Steps P (lone (fr ⟨f,.normal,none⟩ (cs.toArray++Array.replicate (av-cs.toArray.size) undef) [] [.code body]) (c::g) w) (lone (c.finish u) g w'):=fun e x W j d=>by
   obtain⟨z,bO,m2,T,n,Q,b2⟩:=ck σ _ e x j ⟨f,.normal,none⟩ (X _) [] (c::g) _ [] w eE;have M:∃todo,Steps P (lone (fr ⟨f,.normal,none⟩ (cs.toArray++Array.replicate (av-cs.toArray.size) undef) [] [.code body]) (c::g) w) (lone (wl ⟨f,.normal,none⟩ bO m2 todo) (c::g) T):=by
    cases e with
    |hD=>exact⟨[],rv b2 (.one (ams rfl))⟩
    |exit id=>exact(W id rfl).elim
    |ret=>obtain⟨eb,cL⟩:=b2;exact⟨.code .ret::eb,rv cL (.one (amw rfl))⟩
   obtain⟨todo,h_⟩:=M;unfold A_ at d;split at d
   ·rename_i I H;obtain⟨i,r,Z,ep⟩:=aar (P:=P) (b:=⟨f,.normal,none⟩) (a:=bO) (k:=todo) (cs:=c::g) H n.d n.h;split at d
    ·rename_i vs O;simp only[cb,g9]at d;obtain⟨rfl,rfl⟩:=d;obtain⟨D,u1,u2⟩:=Yl n.g n.s r uh O;have dh:=me u1;have S:(fn.results.mapM (Ho bO):Sem (Array Value)).run P i=.ok D.toArray i:=by rw[aaQ];simp only[aaY];rw[u2];rfl
     have d:∃u,aE ρ z (Er vs)=some u/\(results fn bO).run P i=.ok u i:=by
      rw[alC];simp only[d'];rw[S];simp only[dX,eQ]
      match vs,D,u1,dh with
      |[y],[u],u1,_=>obtain⟨t,K,cw⟩:=iW u1;cases cw;exact⟨u,K,am⟩
      |[],[],u1,_=>exact⟨.tuple #[],by simp[Er,aE,bU],am⟩
      |y::mN::l,u::t::m,u1,_=>exact⟨.tuple (u::t::m).toArray,by simp[Er,aE,u1],am⟩
     obtain⟨u,E,G⟩:=d;exact⟨u,i,⟨z,E,r,Q.trans Z⟩,rv h_ (rv ep (.one (step_leave_returned ⟨rfl,rfl,rfl,fn,o,G⟩)))⟩
    ·cases d
   ·cases d
  split at J
  ·rename_i x j;exact C .hD x (fun id ak=>by cases ak) j J
  ·rename_i x j;exact C .ret x (fun id ak=>by cases ak) j J
  ·cases J
end
end Go.ch
namespace Go.ch
section
variable {P:Program} {ρ:b4}
def TO(esz:Nat):List K->ay->Option K
 |[.bS],_=>sr 0
 |[.slice b off _ e cap],h=>bif Nat.beq e esz then match FT h b off esz cap with
  |some (c,true)=>sr c
  |_=>none
  else none
 |_,_=>none
theorem ary{o:Oper}{c:Call}{t e:TypeId}{i:TypeInfo}(h:o.op=.call c)(L:c.callee=.builtin .cap)(ah:c.argTypes[0]? =some t)(hu:P.underlying t=some (.slice e)):xg P ρ o (TO i.size):=by
 intro σ s r a w v q f l J;rw[wT h L]at f;have j:∀(n:Nat) (u:Value),(c.args.map (dT a)).toList=[u]->(Builtin.cap_ c.argTypes o.type #[u]).run P w=.ok (goInt n) w->(execOp (dT a) o).run P w=.ok (.value (.int .i64 (.ofNat n))) w:=fun n u O Y=>by exact aja
 unfold TO at J;split at J
 ·rw[zW]at J;cases J;obtain⟨x,d,O⟩:=iW f;simp only[aE,cb]at d;subst d;exact⟨_,rfl,j 0 _ O (by simp[Builtin.cap_,ah,gF hu])⟩
 ·rename_i b off n m cap;cases g:Nat.beq m i.size with
  |false=>rw[g]at J;simp at J
  |true=>
   rw[g]at J;obtain rfl:=gV g;simp only[er]at J;split at J
   ·rename_i sS k;rw[zW]at J;cases J;obtain⟨x,d,O⟩:=iW f;obtain⟨p,ag,rfl⟩:=xz d;obtain⟨_,eb⟩:=TN l ag k;have:=eb rfl;exact⟨_,rfl,j sS _ O (by simp[Builtin.cap_,ah,gF hu,←this])⟩
   ·cases J
 ·cases J
def T7(esz:Nat):List K->ay->Option (K×ay)
 |[d,x],h=>match Q5 esz h x with
  |none=>none
  |some (n,l)=>match d with
   |.bS=>some (.int .i64 (.ofNat 0),h)
   |.slice b off len e _=>bif Nat.beq e esz then
     (bif Nat.beq (min n len) 0 then some (.int .i64 (.ofNat 0),h)else match h.cK b with
     |some (.cells c vs a true)=>bif Nat.ble (off+min n len*esz) vs.length&&l.all pd&&Nat.blt b en then
      uw (min n len) fun m=>some (.int .i64 (.ofNat m),h.dD b (some (.cells c (yo vs off (l.take (min n len*esz))) a true)))else none
     |_=>none)
    else none
   |_=>none
 |_,_=>none
theorem ar6{o:Oper}{c:Call}{s e:TypeId}{f:TypeInfo}(h:o.op=.call c)(L:c.callee=.builtin .copy)(r:c.argTypes[0]? =some s)(hu:P.underlying s=some (.slice e))(aL:P.info? e=some f):y2 P ρ o (T7 f.size):=by
 intro σ vs X a w v Z W C j J;rw[wT h L]at C;have done:∀(u x t:Value) (w':World),(c.args.map (dT a)).toList=[u,x]->(Builtin.copy_ c.argTypes o.type #[u,x]).run P w=.ok t w'->(execOp (dT a) o).run P w=.ok (.value t) w':=fun u x t w' O Y=>by exact P4
 unfold T7 at J;split at J
 ·rename_i d x;split at J
  ·cases J
  ·rename_i n l F;obtain⟨V,m,z,S,O⟩:=j6 C;obtain⟨q,s5,B⟩:=YV (P:=P) j F S;have a0:∀u,(#[u,m]:Array Value)[0]? =some u:=fun _=>rfl;have bO:∀u,(#[u,m]:Array Value)[1]? =some m:=fun _=>rfl;split at J
   ·simp at J;obtain⟨rfl,rfl⟩:=J;simp only[aE,cb]at z;subst z;obtain⟨D,_,g⟩:=B 0 (dq _);refine .inl ⟨_,w,done _ _ (.int .i64 0) w O ?_,σ,rfl,j,.refl _ _ _⟩;simp only[Builtin.copy_,r,a0,bO,d',gF hu,dX,q,n6 aL,Nat.min_zero,g,eQ,goInt];rfl
   ·rename_i b off len M cap;cases y:Nat.beq M f.size with
    |false=>rw[y]at J;simp at J
    |true=>
     rw[y]at J;obtain rfl:=gV y;simp only[er]at J;obtain⟨p,ag,rfl⟩:=xz z;obtain⟨D,i,g⟩:=B (min n len) (Nat.min_le_left _ _);cases ab:Nat.beq (min n len) 0 with
     |true=>rw[ab]at J;simp at J;obtain⟨rfl,rfl⟩:=J;have E:=gV ab;rw[E]at g i;simp[bU]at i;subst i;refine .inl ⟨_,w,done _ _ (.int .i64 0) w O ?_,σ,rfl,j,.refl _ _ _⟩;simp only[Builtin.copy_,r,a0,bO,d',gF hu,dX,q,n6 aL,show Nat.min n len=0 from E,g,eQ,goInt];simp[storeCells]
     |false=>
      rw[ab]at J;simp only[iK]at J;split at J
      ·rename_i lC U jZ A;cases k:(Nat.ble (off+min n len*f.size) U.length&&l.all pd&&Nat.blt b en)with
       |false=>rw[k]at J;simp at J
       |true=>
        rw[k]at J;simp only[er,yr,cb,g9]at J;obtain⟨rfl,rfl⟩:=J;simp only[dz]at k;obtain⟨⟨c1,c2⟩,c3⟩:=k;have c1:=gP c1;have c3:b<en:=by simpa using c3
        have R:(l.take (min n len*f.size)).all pd=true:=by rw[hs]at c2⊢;exact fun ae H=>c2 ae (MW H)
        have m6:min n len*f.size<=n*f.size:=oU _ (Nat.min_le_left _ _);obtain⟨I,w',Q,N,T,K⟩:=j.aaI (off:=off) A c3 i bu (JD R i);obtain rfl:p=I:=gn (ag.symm.trans Q);refine .inl ⟨_,w',done _ _ (.int .i64 (.ofNat (min n len))) w' O ?_,σ,rfl,T,K⟩;have G:(Builtin.firstCells f.size (Nat.min n len) m).run P w=.ok D.toArray w:=g;simp only[Builtin.copy_,r,a0,bO,d',gF hu,dX,q,n6 aL,G,eQ,goInt,N P];rfl
      ·cases J
   ·cases J
 ·cases J
def aj'(a b:Int):Int:=bif ta b a then b else a
def aiS(a b:Int):Int:=bif ta a b then b else a
def XI:List K->Option K
 |[.int k a,.int j b]=>bif decide (k=j)then some (.int k (aj' a b))else none
 |_=>none
def Xo:List K->Option K
 |[.int k a,.int j b]=>bif decide (k=j)then some (.int k (aiS a b))else none
 |_=>none
theorem ayC{o:Oper}{c:Call}(h:o.op=.call c)(b:c.callee=.builtin .min):ku P ρ o XI:=by
 intro σ s a w v m e J;rw[wT h b]at e;unfold XI at J;split at J
 ·rename_i k p j q;by_cases d:k=j
  ·subst d;simp at J;subst J;obtain⟨r,n,l,i,f⟩:=j6 e;obtain rfl:=m0 l;obtain rfl:=m0 i;refine⟨_,rfl,J7 h b fun cs=>?_⟩;have g:c.args.map (dT a)=#[.int k p,.int k q]:=by apply vE;rw[f]
   rw[g];simp only[builtin,Builtin.min_,List.foldlM_cons,List.foldlM_nil,Builtin.min2,d',eQ,dX,aj',BP];by_cases aq:q<p<;>simp[aq]
  ·simp[d]at J
 ·cases J
theorem aym{o:Oper}{c:Call}(h:o.op=.call c)(b:c.callee=.builtin .max):ku P ρ o Xo:=by
 intro σ s a w v m e J;rw[wT h b]at e;unfold Xo at J;split at J
 ·rename_i k p j q;by_cases d:k=j
  ·subst d;simp at J;subst J;obtain⟨r,n,l,i,f⟩:=j6 e;obtain rfl:=m0 l;obtain rfl:=m0 i;refine⟨_,rfl,J7 h b fun cs=>?_⟩;have g:c.args.map (dT a)=#[.int k p,.int k q]:=by apply vE;rw[f]
   rw[g];simp only[builtin,Builtin.max_,List.foldlM_cons,List.foldlM_nil,Builtin.max2,d',eQ,dX,aiS,BP];by_cases aq:p<q<;>simp[aq]
  ·simp[d]at J
 ·cases J
end
section
variable {P:Program} {ρ:b4}
abbrev vJ:=K×K×Nat
def Gb(k:K):List vJ->Nat->Option (Option (Nat×K))
 |[],_=>some none
 |e::a,i=>match zp k e.1 with
  |some true=>some (some (i,e.2.1))
  |some false=>Gb k a (i+1)
  |none=>none
theorem al6{σ:bl}{d:TypeDesc}{i:Nat}{x y:K}{g l:Value}{b:Bool}(ah:pY d=some i)(a:aE ρ σ x=some g)(c:aE ρ σ y=some l)(e:qt i x=true)(h:zp x y=some b):Instr.sameNow d g l=some b:=by
 unfold zp at h;split at h
 ·rename_i k p j q;by_cases f:k=j
  ·subst f;simp at h;subst h;obtain rfl:=m0 a;obtain rfl:=m0 c;cases d<;>simp[pY]at ah<;>subst ah<;>simp[qt]at e;simp only[Instr.sameNow,sA,A9];rfl
  ·simp[f]at h
 ·cases h;obtain⟨m,rfl⟩:=qd a;obtain⟨n,rfl⟩:=qd c;cases d<;>simp[pY]at ah<;>subst ah<;>simp[qt]at e;simp only[Instr.sameNow,beq_toListBytes,OC m n]
 ·cases h;simp only[aE,cb]at a c;subst a;subst c;cases d<;>simp[pY]at ah<;>subst ah<;>simp[qt]at e;rfl
 ·cases h
theorem ae8{σ:bl}:∀{a:List vJ} {b:List MapEntry},ox ρ σ a b->b.length=a.length
 |[],[],_=>rfl
 |_::_,_::_,⟨_,h⟩=>by simp[ae8 h]
 |[],_::_,h=>h.elim
 |_::_,[],h=>h.elim
theorem ae7{σ:bl}:∀{a:List vJ} {b:List MapEntry},ox ρ σ a b->∀{i:Nat} {e:vJ},a[i]? =some e->∃m,b[i]? =some m/\OA ρ σ e m
 |[],[],_,i,e,h=>by simp at h
 |eg::a,f::b,⟨H,I⟩,i,e,h=>by
  cases i with
  |zero=>simp at h;subst h;exact⟨f,am,H⟩
  |succ i=>simp at h;obtain⟨m,c,d⟩:=ae7 I h;exact⟨m,by simpa using c,d⟩
 |[],_::_,h,_,_,_=>h.elim
 |_::_,[],h,_,_,_=>h.elim
theorem J_{σ:bl}{d:TypeDesc}{q:Nat}{k:K}{sS:Value}(ah:pY d=some q)(l:aE ρ σ k=some sS)(n:qt q k=true):∀{b:List vJ} {g:List MapEntry} {i:Nat} {r:Option (Nat×K)},ox ρ σ b g->Gb k b i=some r->
  match r with
  |none=>Instr.findNow d sS g i=some none
  |some (j,v)=>∃c,Instr.findNow d sS g i=some (some (j,c))/\aE ρ σ v=some c/\∃e,i<=j/\b[j-i]? =some e/\e.2.1=v/\zp k e.1=some true
 |[],[],i,r,_,h=>by simp[Gb]at h;subst h;rfl
 |e::b,m::g,i,r,⟨⟨H,I,C⟩,t⟩,h=>by
  simp only[Gb]at h
  split at h
  ·rename_i a
   cases h
   exact⟨m.val,by simp only[Instr.findNow,al6 ah l H n a],I,e,aZ _,am,rfl,a⟩
  ·rename_i a
   have f:=J_ ah l n (i:=i+1) t h
   have o:=al6 ah l H n a
   cases r with
   |none=>simp only at f⊢;simp only[Instr.findNow,o,f]
   |some s=>
    obtain⟨j,v⟩:=s
    simp only at f⊢
    obtain⟨c,u,w,x,D,y,B,A⟩:=f
    refine⟨c,by simp only[Instr.findNow,o,u],w,x,z,?_,B,A⟩
    have:j-i=(j-(i+1))+1:=z
    rw[this];simpa using y
  ·cases h
 |[],_::_,_,_,h,_=>h.elim
 |_::_,[],_,_,h,_=>h.elim
theorem QW{w:World}{t:TypeId}{d:TypeDesc}{a:Nat}(hd:P.underlying t=some d)(ah:pY d=some a)(e:Bool)(n:Nat)(v:Value):(Instr.checkKey e (n+1) t v).run P w=.ok () w:=by
 cases d<;>simp[pY]at ah<;>simp[Instr.checkKey,gF hd]
theorem QX{w:World}{t:TypeId}{d:TypeDesc}(hd:P.underlying t=some d){k:Value}{a:List MapEntry}{r:Option (Nat×Value)}(h:Instr.findNow d k a 0=some r):(Instr.findKey t k a).run P w=.ok r w:=by
 simp[Instr.findKey,gF hd,h]
theorem c6.map{σ:bl}{h:ay}{w:World}(r:c6 ρ σ h w){b:Nat}{c:List vJ}{sS:Nat}(A:h.cK b=some (.map c sS)):∃p a,σ b=some p/\p.dA=0/\w.heap[p.aU]? =some (.map a sS)/\ox ρ σ c a.toList/\p.aU<w.heap.size:=by
 obtain⟨p,ag,aq,H,a,I,d⟩:=r.lt A;exact⟨p,a,ag,H,I,d,aq⟩
def G5(ok:Bool)(v:K)(HA:Bool):K:=bif ok then .tup [v,.bool HA]else v
def Xh(a:Nat)(zero:K)(ok:Bool):List K->ay->Option K
 |[.uo,k],_=>bif qt a k then some (G5 ok zero false)else none
 |[.map b,k],h=>bif qt a k then match h.cK b with
  |some (.map c _)=>match Gb k c 0 with
   |some (some (_,v))=>some (G5 ok v true)
   |some none=>some (G5 ok zero false)
   |none=>none
  |_=>none
  else none
 |_,_=>none
theorem T3{σ:bl}{ok HA:Bool}{v:K}{c:Value}(h:aE ρ σ v=some c):aE ρ σ (G5 ok v HA)=some (if ok=true then .tuple #[c,.bool HA]else c):=by
 cases ok
 ·simpa[G5]using h
 ·simp[G5,aE,bU,h]
theorem ax6{o:Oper}{t k e:TypeId}{x y:Operand}{ok:Bool}{eF:TypeDesc}{z:Nat}{G:TypeInfo}{ae:Value}{B:K}(h:o.op=.lookup t x y ok)(hu:P.underlying t=some (.map k e))(n:P.underlying k=some eF)(ah:pY eF=some z)(M:P.info? e=some G)(N:G.zero=some ae)(W:ofValue ae=some B): xg P ρ o (Xh z B ok):=by
 intro σ s Y a w v X F Q J;have H:(zeroValue e).run P w=.ok ae w:=by simp[zeroValue,typeInfo,M,N]
 have I:aE ρ σ B=some ae:=akz W;unfold Xh at J;split at J
 ·rename_i C;cases i:qt z C with
  |false=>rw[i]at J;simp at J
  |true=>
   rw[i]at J;simp only[er,cb]at J;subst J;obtain⟨c,d,l,hd,g⟩:=j6 F;simp[fm,h,Op.operands]at g;simp only[aE,cb]at l;subst l;refine⟨_,T3 I,?_⟩;have m:(Instr.findKey k d []).run P w=.ok none w:=QX n rfl;have D:(Instr.lookup t (.map none) d ok).run P w=.ok (if ok=true then .tuple #[ae,.bool false]else ae) w:=by simp only[Instr.lookup,d',gF hu,dX,eQ,QW n ah _ 9999];rw[m];simp only[dX,d',H,eQ]
   simp only[execOp,h,g.1,g.2,d',D,dX,eQ]
 ·rename_i b C;cases i:qt z C with
  |false=>rw[i]at J;simp at J
  |true=>
   rw[i]at J;simp only[er]at J;split at J
   ·rename_i Z zk A;obtain⟨c,d,l,hd,g⟩:=j6 F;simp[fm,h,Op.operands]at g;simp only[aE,ig]at l;obtain⟨p,ag,rfl⟩:=l;obtain⟨O,S,T,_,V,L,_⟩:=Q.map A;obtain rfl:p=O:=gn (ag.symm.trans T);have U:=Md (P:=P) V (by intro c e f;simp);have base:∀(r:Option (Nat×Value)),Instr.findNow eF d S.toList 0=some r->(Instr.lookup t (.map (some p.aU)) d ok).run P w=(match r with|some (_,v)=>.ok (if ok=true then .tuple #[v,.bool true]else v) w|none=>.ok (if ok=true then .tuple #[ae,.bool false]else ae) w):=fun r D=>by
     simp only[Instr.lookup,d',gF hu,dX,U,eQ,QW n ah _ 9999,QX n D];cases r with
     |none=>simp only[d',H,dX,eQ]
     |some q=>obtain⟨_,_⟩:=q;simp only[d',eQ,dX]
    split at J
    ·rename_i j u m;cases J;obtain⟨sW,E,R,_⟩:=J_ ah hd i L m;refine⟨_,T3 R,?_⟩;simp only[execOp,h,g.1,g.2,d',base _ E,dX,eQ]
    ·rename_i m;cases J;have E:=J_ ah hd i L m;refine⟨_,T3 I,?_⟩;simp only[execOp,h,g.1,g.2,d',base _ E,dX,eQ]
    ·cases J
   ·cases J
 ·cases J
def Xk:List K->Option em
 |[]=>some (.map [] 0)
 |_=>none
def Xn(_:List K)(b:Nat):K:=.map b
theorem ayi{o:Oper}{t:TypeId}(h:o.op=.makeMap t none):E6 P ρ o Xk Xn:=by
 intro σ s a w x b e d c A;unfold Xk at c;split at c
 ·cases c;refine⟨.map #[] 0,0,w.drawn,.map (some w.heap.size),?_,by simp[Xn,aE,dW],rfl,#[],rfl,h5⟩;simp[execOp,h,Instr.makeMap]
 ·cases c
def Xm(d:Nat):List K->ay->Option (K×ay)
 |[.map b,k,v],h=>bif qt d k&&Nat.blt b en then match h.cK b with
  |some (.map a c)=>match Gb k a 0 with
   |some (some (i,_))=>some (pz,h.dD b (some (.map (a.modify i fun e=>(k,v,e.2.2)) c)))
   |some none=>some (pz,h.dD b (some (.map (a++[(k,v,c)]) (c+1))))
   |none=>none
  |_=>none
  else none
 |_,_=>none
theorem ae5{σ:bl}:∀{b d:List vJ} {c a:List MapEntry},ox ρ σ b c->ox ρ σ d a->ox ρ σ (b++d) (c++a)
 |[],_,[],_,_,h=>h
 |_::_,_,_::_,_,⟨H,I⟩,h=>⟨H,ae5 I h⟩
 |[],_,_::_,_,h,_=>h.elim
 |_::_,_,[],_,h,_=>h.elim
theorem ae_{σ:bl}{f:vJ->vJ}{g:MapEntry->MapEntry}:∀{a:List vJ} {b:List MapEntry} {i:Nat},ox ρ σ a b->(∀e m,a[i]? =some e->b[i]? =some m->OA ρ σ e m->OA ρ σ (f e) (g m))->ox ρ σ (a.modify i f) (b.modify i g)
 |[],[],i,_,_=>by simp[ox]
 |e::a,m::b,0,⟨H,I⟩,c=>by simp only[List.modify_zero_cons];exact⟨c e m am am H,I⟩
 |e::a,m::b,i+1,⟨H,I⟩,c=>by
  simp only[List.modify_succ_cons]
  exact⟨H,ae_ I fun k l d j=>c k l (by simpa using d) (by simpa using j)⟩
 |[],_::_,_,h,_=>h.elim
 |_::_,[],_,h,_=>h.elim
theorem aBI{σ:bl}{x y:K}{d e:Value}(a:aE ρ σ x=some d)(b:aE ρ σ y=some e)(h:zp x y=some true)(n:Nat):Instr.sameBits (n+1) e d=true:=by
 unfold zp at h;split at h
 ·rename_i k p j q;by_cases c:k=j
  ·subst c;simp[A9]at h;subst h;obtain rfl:=m0 a;obtain rfl:=m0 b;simp[Instr.sameBits]
  ·simp[c]at h
 ·simp[Q9]at h;subst h;obtain⟨f,rfl⟩:=qd a;obtain⟨g,rfl⟩:=qd b;simp only[Instr.sameBits];rw[beq_toListBytes,OC f g,Q9];simp
 ·simp at h;subst h;simp only[aE,cb]at a b;subst a;subst b;simp[Instr.sameBits]
 ·cases h
theorem ayk{o:Oper}{t k e:TypeId}{x y ae:Operand}{eF:TypeDesc}{F:Nat}(h:o.op=.mapUpdate t x y ae∨o.op=.insert t x y ae)(hu:P.underlying t=some (.map k e))(q:P.underlying k=some eF)(ah:pY eF=some F):y2 P ρ o (Xm F):=by
 intro σ s E a w v bf al L M J;have U:fm o a=[dT a x,dT a y,dT a ae]:=by rcases h with h|h<;>simp[fm,h,Op.operands]
 rw[U]at L;unfold Xm at J;split at J
 ·rename_i b X u;cases r:(qt F X&&Nat.blt b en)with
  |false=>rw[r]at J;simp at J
  |true=>
   rw[r]at J;simp only[er]at J;simp only[dz]at r;obtain⟨S,C⟩:=r;have C:b<en:=by simpa using C
   split at J
   ·rename_i bB H A;obtain⟨c,d,f,I,hd,N,K⟩:=T0 L;simp only[pk,yS]at K;obtain⟨b2,cL,hp⟩:=K;simp only[aE,ig]at I;obtain⟨p,ag,rfl⟩:=I;obtain⟨bQ,z,ew,Y,G,n,aq⟩:=M.map A;obtain rfl:p=bQ:=gn (ag.symm.trans ew);have O:=Md (P:=P) G (by intro c e f;simp);have R:∀(l:List vJ) (j:Array MapEntry) (g:Nat),ox ρ σ l j.toList->(Instr.mapUpdate t (.map (some p.aU)) d f).run P w=.ok () (gj w p.aU (.map j g))->
      CA P o a w fun c w'=>∃σ',aE ρ σ' pz=some c/\c6 ρ σ' (E.dD b (some (.map l g))) w'/\jj σ E w σ' (E.dD b (some (.map l g))) w':=fun l j g aL Z=>by
     obtain⟨aW,bb⟩:=M.put (x:=.map l g) (o:=.map j g) A ag C aq ⟨Y,j,rfl,aL⟩;refine .inr (.inl ⟨_,?_,σ,JI ρ σ,aW,bb⟩);rcases h with h|h<;>simp only[execOp,h,b2,cL,hp,d',Z,dX,eQ]
    split at J
    ·rename_i i hE B;cases J;obtain⟨sW,D,cf,eg,ep,Q,ro,n3⟩:=J_ ah hd S n B;simp only[abh]at Q;obtain⟨hR,W,T⟩:=ae7 n Q;have V:z[i]? =some hR:=by simpa using W
     have aa:(Instr.keyThatStays (((z[i]?).map (·.key)).getD d) d).run P w=.ok d w:=by rw[V];simp only[ob,H2,Instr.keyThatStays];rw[cv (aBI hd T.1 n3 9999)];rfl
     refine R _ (z.modify i fun e=>{e with key:=d,val:=f}) H ?_ ?_
     ·rw[Array.toList_modify];refine ae_ n fun e m b' dt eq=>⟨hd,N,eq.2.2⟩
     ·simp only[Instr.mapUpdate,d',gF hu,dX,O,QW q ah _ 9999,QX q D,aa,ED (P:=P) G (by intro c e f;simp)]
    ·rename_i B;cases J;have D:=J_ ah hd S n B;refine R _ (z.push {key:=d,val:=f,born:=H}) (H+1) ?_ ?_
     ·rw[Array.toList_push];exact ae5 n ⟨⟨hd,N,rfl⟩,h5⟩
     ·simp only[Instr.mapUpdate,d',gF hu,dX,O,QW q ah _ 9999,QX q D,ED (P:=P) G (by intro c e f;simp)]
    ·cases J
   ·cases J
 ·cases J
end
section
variable {P:Program} {ρ:b4}
theorem amB{σ:bl}{s:List Nat}(h:jn s):aE ρ σ (.str s)=some (.string (fz s)):=by
 have:s.all (fun n=>decide (n<256))=true:=by simpa[jn]using h
 simp only[aE,this,sA]
def Hy:List K->Option (List Nat)
 |[]=>some []
 |.int .u8 (.ofNat m)::l=>bif Nat.blt m 256 then(match Hy l with
  |some r=>some (m::r)
  |none=>none)else none
 |_=>none
theorem Y0{σ:bl}:∀{l:List K} {cs:List Value} {s:List Nat},Hy l=some s->bU ρ σ l=some cs->jn s/\s.length=l.length/\cs=(s.map Int.ofNat).map (Value.int .u8)
 |[],cs,s,h,a=>by
  simp[Hy]at h;subst h
  simp[bU]at a;subst a
  exact⟨by simp[jn],rfl,rfl⟩
 |v::l,cs,s,h,a=>by
  unfold Hy at h
  split at h
  ·cases h
   rename_i e;cases e
  ·rename_i m n e
   cases e
   cases b:Nat.blt m 256 with
   |false=>rw[b]at h;simp at h
   |true=>
    rw[b]at h
    simp only[er]at h
    split at h
    ·rename_i r g
     cases h
     obtain⟨c,o,H,I,i⟩:=uT a
     obtain rfl:=m0 H
     obtain⟨d,j,k⟩:=Y0 g I
     have f:m<256:=by simpa using b
     refine⟨?_,by simp[j],by rw[i,k];rfl⟩
     simp only[jn,List.all_cons,dz]at d⊢
     exact⟨by simpa using f,d⟩
    ·cases h
  ·cases h
theorem afs:∀(s:List Nat) (a:ByteArray),(s.map Int.ofNat).foldl (fun r n=>r.push (UInt8.ofNat n.toNat)) a=⟨a.data++(s.map UInt8.ofNat).toArray⟩
 |[],a=>by simp
 |m::s,a=>by
  simp only[oa,HQ]
  rw[afs s]
  apply HH
  simp[ByteArray.push]
def TE:List K->ay->Option K
 |[.bS],_=>some (.str [])
 |[.slice b o n _ _],h=>bif Nat.beq n 0 then some (.str [])else match h.cK b with
  |some (.cells _ vs _ _)=>bif Nat.ble (o+n) vs.length then(match Hy ((vs.drop o).take n)with
   |some s=>some (.str s)
   |none=>none)else none
  |_=>none
 |_,_=>none
theorem aro{o:Oper}{s d e:TypeId}{x:Operand}(h:o.op=.convert s d x)(y:P.underlying s=some (.slice e))(t:P.underlying e=some (.int .u8))(hd:P.underlying d=some .string):xg P ρ o TE:=by
 intro σ l Q a w v O q E J;unfold TE at J;split at J
 ·cases J;obtain⟨c,i,g⟩:=iW q;simp[fm,h,Op.operands]at g;simp only[aE,cb]at i;subst i;refine⟨.string (fz []),rfl,?_⟩;simp only[execOp,h,g,d',anv w s d e _ _ _ y t hd];rfl
 ·rename_i b off n esz cap;obtain⟨c,i,g⟩:=iW q;simp[fm,h,Op.operands]at g;obtain⟨f,K,rfl⟩:=xz i;have B:∀(aj:List Nat),jn aj->(loadCells ⟨f.aU,f.dA+off,none⟩ n).run P w=.ok ((aj.map Int.ofNat).map (Value.int .u8)).toArray w->
    ∃c,aE ρ σ (.str aj)=some c/\(execOp (dT a) o).run P w=.ok (.value c) w:=fun aj ok m=>by
   refine⟨.string (fz aj),amB ok,?_⟩;have r:=run_bytesToString w ⟨f.aU,f.dA+off,none⟩ n (i9 f off esz cap) _ m;rw[afs]at r;simp only[execOp,h,g,d',anv w s d e _ _ _ y t hd,r,dX,eQ];congr 2;simp[fz]
  cases ab:Nat.beq n 0 with
  |true=>rw[ab]at J;simp only[er,cb]at J;subst J;obtain rfl:=gV ab;exact B [] (by simp[jn]) (by simp[loadCells,loadCellsFrom])
  |false=>
   rw[ab]at J;simp only[iK]at J;split at J
   ·rename_i elem vs V wr A;cases k:Nat.ble (off+n) vs.length with
    |false=>rw[k]at J;simp at J
    |true=>
     rw[k]at J;simp only[er]at J;have k:=gP k;split at J
     ·rename_i aj F;cases J;obtain⟨p,arr,bg,cs,ag,H,I,N,M,u,L,U,T⟩:=E.cells A;obtain rfl:p=f:=gn (ag.symm.trans K);have S:=me u;obtain⟨D,R,G⟩:=Y0 F (sU n (tS off u));have m:=Me (P:=P) (w:=w) p.aU (p.dA+off) n ((cs.drop off).take n) bu fun j C=>by rw[kr,L (off+j) z];simp[oS,C]
      refine B aj D ?_;rw[m,G]
     ·cases J
   ·cases J
 ·cases J
theorem aBE{w:World}{r:Nat}{a:TypeId×Nat}(h:w.shape? r=some a):(viewAt r).run P w=.ok none w:=by
 simp[viewAt,h]
theorem aBA{w:World}{r n:Nat}{e:TypeId}(h:w.shape? r=some (e,n)):(cellsIn r).run P w=.ok (some n) w:=by
 simp[cellsIn,h]
theorem al4{w:World}{a:Addr}{b:TypeId×Nat}(h:w.shape? a.block=some b):(Conv.seenAt a).run P w=.ok a w:=by
 simp[Conv.seenAt,aBE h]
def aag:List K->ay->Option K
 |[.pV],_=>some .pV
 |[.jo b o],h=>match h.cK b with
  |some (.cells _ vs _ _)=>bif Nat.blt o vs.length then some (.jo b o)else none
  |_=>none
 |_,_=>none
theorem aDL{o:Oper}{s d t:TypeId}{x:Operand}{e:TypeInfo}(h:o.op=.convert s d x)(jU:P.underlying s=some (.pointer t))(hd:P.underlying d=some .unsafePointer)(ah:P.info? t=some e)(f:e.size≠0):xg P ρ o aag:=by
 intro σ l B a w v y V k J;unfold aag at J;split at J
 ·cases J;exact ajf
 ·rename_i b off;split at J
  ·rename_i elem vs G wr A;cases aq:Nat.blt off vs.length with
   |false=>rw[aq]at J;simp at J
   |true=>
    rw[aq]at J;simp only[er,cb]at J;subst J;have aq:off<vs.length:=by simpa using aq
    obtain⟨c,L,O⟩:=iW V;simp[fm,h,Op.operands]at O;obtain⟨j,m,rfl⟩:=uU L;obtain⟨p,arr,bg,cs,ag,H,I,u,r,C,F,E,D⟩:=k.cells A;obtain rfl:p=j:=gn (ag.symm.trans m);refine⟨_,L,?_⟩;have g:w.shape? p.aU=some (elem,arr.size):=by simp[World.shape?,H]
    have n:=al4 (P:=P) (a:=⟨p.aU,p.dA+off,none⟩) g;have i:=aBA (P:=P) g;have q:¬(p.dA+off≥arr.size):=z;simp only[execOp,h,O,convert,gF jU,gF hd,d',dX,Conv.unsafePointer,n,i,n6 ah,q,f,eQ];simp[f]
  ·cases J
 ·cases J
def XZ(u lm:Nat):List K->ay->Option K
 |[.pV],_=>some .pV
 |[.jo b o],h=>match h.cK b with
  |some (.cells e vs true _)=>bif Nat.beq e u&&Nat.beq (Nat.mod o lm) 0&&Nat.ble (o+lm) vs.length then some (.jo b o)else none
  |_=>none
 |_,_=>none
theorem axX{u:TypeId}{lm off n:Nat}(a:P.cellsOf u=lm)(d:lm≠0)(ab:off%lm=0)(b:off+lm<=n):liesAt P P.depth u (n/lm) off u 1=true:=by
 have hd:P.depth=(2*(P.types.size+Made.depth)+1)+1:=rfl;rw[hd];simp only[liesAt,ML];left;rw[hd];have:off/lm+1<=n/lm:=by have:=anQ (c:=lm) b;rw[Nat.add_div_right _ z]at this;exact this
 simp[rowAt,a,d,ab,this,sameLayout]
theorem azk{o:Oper}{s d u:TypeId}{x:Operand}{e:TypeInfo}(h:o.op=.convert s d x)(jU:P.underlying s=some .unsafePointer)(hd:P.underlying d=some (.pointer u))(hu:P.info? u=some e)(n:e.size≠0):xg P ρ o (XZ u e.size):=by
 intro σ l E a w v D V r J;unfold XZ at J;split at J
 ·cases J;exact ajf
 ·rename_i b off;split at J
  ·rename_i elem vs wr A;cases f:(Nat.beq elem u&&Nat.beq (Nat.mod off e.size) 0&&Nat.ble (off+e.size) vs.length)with
   |false=>rw[f]at J;simp at J
   |true=>
    rw[f]at J;simp only[er,cb]at J;subst J;simp only[dz]at f;obtain⟨⟨ak,g⟩,i⟩:=f;obtain rfl:=gV ak;have g:off%e.size=0:=gV g;have i:=gP i;obtain⟨c,L,O⟩:=iW V;simp[fm,h,Op.operands]at O;obtain⟨q,y,rfl⟩:=uU L;obtain⟨p,arr,bg,cs,ag,H,I,C,m,F,N,K,G⟩:=r.cells A;obtain rfl:p=q:=gn (ag.symm.trans y);obtain⟨M,t⟩:=m rfl;refine⟨_,L,?_⟩;have k:w.shape? p.aU=some (elem,arr.size):=by simp[World.shape?,H]
    have B:=al4 (P:=P) (a:=⟨p.aU,p.dA+off,none⟩) k;have j:P.cellsOf elem=e.size:=by simp[Program.cellsOf,hu]
    have J:(variablesAt ⟨p.aU,p.dA+off,none⟩ elem 1).run P w=.ok true w:=by simp only[variablesAt,d',Ar,dX,run_shape,k,eQ,j];rw[axX j n (by rw[t];simpa using g) z]
    simp only[execOp,h,O,convert,gF jU,gF hd,d',dX,Conv.unsafePointer,B,n6 hu,J,eQ];simp
  ·cases J
 ·cases J
def YO:List K->ay->Option K
 |[.bS],_=>some .pV
 |[.slice b o n esz none],h=>match h.cK b with
  |some (.cells _ vs _ _)=>bif Nat.ble (o+esz) vs.length&&Nat.blt 0 esz then some (.jo b o)else none
  |_=>none
 |_,_=>none
theorem aCm{o:Oper}{c:Call}(h:o.op=.call c)(j:c.callee=.builtin .unsafeSliceData):xg P ρ o YO:=by
 intro σ l D a w v C g s J;rw[wT h j]at g;have done:∀(u r:Value),(c.args.map (dT a)).toList=[u]->(Builtin.unsafeSliceData_ c.argTypes o.type #[u]).run P w=.ok r w->(execOp (dT a) o).run P w=.ok (.value r) w:=fun u r d k=>by
  refine J7 h j fun cs=>?_;have m:c.args.map (dT a)=#[u]:=by apply vE;rw[d]
  rw[m];simp only[builtin,d',k,dX,eQ]
 unfold YO at J;split at J
 ·cases J;obtain⟨x,f,d⟩:=iW g;simp only[aE,cb]at f;subst f;exact⟨_,rfl,done _ _ d (Lib.run_unsafeSliceData_nil w _ _ _ _)⟩
 ·rename_i b off n esz;split at J
  ·rename_i elem vs L wr A;cases e:(Nat.ble (off+esz) vs.length&&Nat.blt 0 esz)with
   |false=>rw[e]at J;simp at J
   |true=>
    rw[e]at J;simp only[er,cb]at J;subst J;simp only[dz]at e;obtain⟨ak,i⟩:=e;have ak:=gP ak;have i:0<esz:=by simpa using i
    obtain⟨x,f,d⟩:=iW g;obtain⟨q,t,rfl⟩:=xz f;obtain⟨p,arr,bg,cs,ag,H,I,B,y,E,K,G,F⟩:=s.cells A;obtain rfl:p=q:=gn (ag.symm.trans t);refine⟨.pointer (some ⟨p.aU,p.dA+off,none⟩),by simp[aE,ag],done _ _ d (Lib.run_unsafeSliceData_row w _ _ _ _ _ ?_)⟩;simp only[i9];have:1<=(p.tot-off)/esz:=(anR i).2 z;omega
  ·cases J
 ·cases J
def aap(e:Nat):List K->ay->Option (K×ay)
 |[.pV,.int .i64 (.ofNat 0)],h=>some (.str [],h)
 |[.jo b o,.int .i64 (.ofNat n)],h=>match h.cK b with
  |some (.cells a vs c wr)=>bif Nat.beq a e&&Nat.blt 0 n&&Nat.ble (o+n) vs.length&&Nat.blt b en&&Nat.blt n 9223372036854775807 then(match Hy ((vs.drop o).take n)with
   |some s=>some (.str s,h.dD b (some (.cells a vs c false)))
   |none=>none)else none
  |_=>none
 |_,_=>none
theorem atK{w:World}{r o n:Nat}{arr:Array Value}{elem:TypeId}{bg:Nat×Nat}(h:w.heap[r]? =some (.cells arr elem bg))(b:n≠0):∃a,w.freeze ⟨r,o,none⟩ n=gj w r (.cells arr elem a):=by
 obtain⟨ee,hi⟩:=bg;refine⟨if ee==hi then(o,o+n)else(min ee o,max hi (o+n)),?_⟩;unfold World.freeze gj;rw[bn b];congr 1;apply MH;intro i;rw[RB,yF];have aq:r<w.heap.size:=(hl.1 h).1;by_cases e:r=i
 ·subst e;simp only[sA,h,ob,aq]
 ·simp[e]
theorem axW{e:TypeId}(a:P.cellsOf e=1)(count off n:Nat)(b:off+n<=count):liesAt P P.depth e count off e n=true:=by
 have hd:P.depth=(2*(P.types.size+Made.depth)+1)+1:=rfl;rw[hd];simp only[liesAt,ML];left;rw[hd];simp[rowAt,a,b,sameLayout,Nat.mod_one]
theorem aEI{o:Oper}{c:Call}{y e:TypeId}{E:TypeInfo}(h:o.op=.call c)(L:c.callee=.builtin .unsafeString)(M:c.argTypes[0]? =some y)(ew:P.underlying y=some (.pointer e))(ab:P.info? e=some E)(U:E.size=1):y2 P ρ o (aap e):=by
 intro σ l b7 a w v bf al i s J;rw[wT h L]at i;have T:IntKind.i64.max=9223372036854775807:=rfl;have done:∀(u x r:Value) (w':World),(c.args.map (dT a)).toList=[u,x]->(Builtin.unsafeString_ c.argTypes o.type #[u,x]).run P w=.ok r w'->(execOp (dT a) o).run P w=.ok (.value r) w':=fun u x r w' O Y=>by exact P4
 unfold aap at J;split at J
 ·simp only[cb,g9]at J;obtain⟨rfl,rfl⟩:=J;obtain⟨hy,ou,g,B,O⟩:=j6 i;simp only[aE,cb]at g;subst g;obtain rfl:=m0 B;refine .inl ⟨.string .empty,w,done _ _ _ _ O ?_,σ,?_,s,.refl _ _ _⟩
  ·change(asInt (.int .i64 (Int.ofNat 0)) >>= _:Sem Value).run P w=_;simp[asInt,asIntOf,T,M]
  ·rfl
 ·rename_i b off n;split at J
  ·rename_i d vs jZ wr A;cases f:(Nat.beq d e&&Nat.blt 0 n&&Nat.ble (off+n) vs.length&&Nat.blt b en&&Nat.blt n 9223372036854775807)with
   |false=>rw[f]at J;simp at J
   |true=>
    rw[f]at J;simp only[er]at J;simp only[dz]at f;obtain⟨⟨⟨⟨ak,D⟩,K⟩,t⟩,Q⟩:=f;obtain rfl:=gV ak;have D:0<n:=by simpa using D
    have K:=gP K;have t:b<en:=by simpa using t
    have Q:n<9223372036854775807:=by simpa using Q
    split at J
    ·rename_i aj eE;simp only[cb,g9]at J;obtain⟨rfl,rfl⟩:=J;obtain⟨hy,ou,g,B,O⟩:=j6 i;obtain⟨bQ,i0,rfl⟩:=uU g;obtain rfl:=m0 B;obtain⟨p,arr,bg,cs,ag,H,I,Z,V,q,fo,eX,eN⟩:=s.cells A;obtain rfl:p=bQ:=gn (ag.symm.trans i0);have dh:=me q;obtain⟨G,cf,ep⟩:=Y0 eE (sU n (tS off q));have F:aj.length=n:=by rw[cf];simp;omega
     obtain⟨C,xV⟩:=atK (o:=p.dA+off) H (show n≠0 by omega);have l0:p.aU<w.heap.size:=(hl.1 H).1;obtain⟨W,bb⟩:=s.put (x:=.cells d vs jZ false) (o:=.cells arr d C) A ag t l0 ⟨arr,C,rfl,I,Z,V,⟨cs,q,eX⟩,fun h=>by cases h⟩;refine .inl ⟨.string (fz aj),_,done _ _ _ _ O ?_,σ,amB G,W,bb⟩;have N:P.cellsOf d=1:=by simp[Program.cellsOf,ab,U]
     have oC:w.shape? p.aU=some (d,arr.size):=by simp[World.shape?,H]
     have ad:(variablesAt ⟨p.aU,p.dA+off,none⟩ d n).run P w=.ok true w:=by simp only[variablesAt,d',Ar,dX,run_shape,oC,eQ,N,Nat.div_one];rw[axW N _ _ _ z]
     have R:=Lib.run_loadBytes (P:=P) w (aj.map UInt8.ofNat) ⟨p.aU,p.dA+off,none⟩ .empty (fun j x k=>by
      rw[xr,kr]
      have X:j<n:=by
       have:=(j2.1 k).1
       simpa[F]using this
      rw[fo (off+j) z]
      have:((cs.drop off).take n)[j]? =cs[off+j]? :=by simp[oS,X]
      rw[←this,ep]
      simp only[pn,ig]at k
      obtain⟨m,S,rfl⟩:=k
      simp only[pn,S,ob]
      have:m<256:=by
       have:=hs.1 G m (Aw S)
       simpa using this
      congr 1
      simp[ry this])
     rw[HT,F]at R;have wD:(elemOf y).run P w=.ok d w:=by simp[elemOf,gF ew]
     have cz:¬((n:Int)<0):=z;have gs:¬((n:Int)>9223372036854775807):=z;have gt:¬((n:Int)=0):=z;change(asInt (.int .i64 (Int.ofNat n)) >>= _:Sem Value).run P w=_;simp only[asInt,asIntOf,d',eQ,dX,M,T,Co,cz,gs,gt,oV,wD,aa7,ad,sA,R,run_freeze,xV];congr 2;simp[fz]
    ·cases J
  ·cases J
 ·cases J
def Xb:List K->ay->Option K
 |[.uo],_=>sr 0
 |[.map b],h=>match h.cK b with
  |some (.map a _)=>sr a.length
  |_=>none
 |_,_=>none
theorem axQ{o:Oper}{c:Call}{t k e:TypeId}(h:o.op=.call c)(L:c.callee=.builtin .len)(ah:c.argTypes[0]? =some t)(hu:P.underlying t=some (.map k e)):xg P ρ o Xb:=by
 intro σ s u a w v r g j J;rw[wT h L]at g;unfold Xb at J;split at J
 ·rw[zW]at J;cases J;obtain⟨x,d,O⟩:=iW g;simp only[aE,cb]at d;subst d;exact P3
 ·split at J
  ·rename_i b _ y B A;rw[zW]at J;cases J;obtain⟨x,d,O⟩:=iW g;simp only[aE,ig]at d;obtain⟨p,ag,rfl⟩:=d;obtain⟨i,z,l,_,n,q,_⟩:=j.map A;obtain rfl:p=i:=gn (ag.symm.trans l);have m:=Md (P:=P) n (by intro c e f;simp);refine⟨_,rfl,Yu h L O ?_⟩;have:=ae8 q;simp at this;simp[Builtin.len_,ah,gF hu,m,this]
  ·cases J
 ·cases J
end
end Go.ch
namespace Go.ch
open Go.Proofs.Tryz
def nN(P:Program)(f:FuncId)(e:Array Value->Sem Value):Prop:=∀args w,(callFunc f args).run P w=((e args).run P w).andThen fun v w'=>.ok (.value v) w'
section
variable {P:Program} {ρ:b4}
theorem nN.g0{f:FuncId}{fn:Func}{e:Array Value->Sem Value}(d:P.funcs[f]? =some fn)(a:(fn.name== "runtime.NumGoroutine")=false)(A:fn.body.isNone=true)(c:Extern.findNext fn=none)(b:Extern.find fn=some e):nN P f e:=
 fun args w=>run_callFunc_extern d a A c b args w
theorem nN.fn{f:FuncId}{e:Array Value->Sem Value}(h:nN P f e){F:List K->ay->Option (K×ay)} (j:∀σ args a v b cs w,jE P σ->bU ρ σ args=some cs->c6 ρ σ a w->F args a=some (v,b)->∃c w',(e cs.toArray).run P w=.ok c w'/\oc ρ σ a w v b c w'):ls P ρ f F:=by
 intro σ args a v b cs w g d i J;obtain⟨c,w',H,I⟩:=j σ args a v b cs w g d i J;exact .inl ⟨c,w',by rw[h cs.toArray w,H];rfl,I⟩
theorem nN.pure{f:FuncId}{e:Array Value->Sem Value}(h:nN P f e){F:List K->Option K}
  (j:∀σ args v cs w,bU ρ σ args=some cs->F args=some v->∃c,(e cs.toArray).run P w=.ok c w/\aE ρ σ v=some c):ls P ρ f (fun a b=>match F a with|some v=>some (v,b)|none=>none):=
 h.fn fun σ args b v l cs w k d i J=>by
  split at J
  ·rename_i m g
   simp only[cb,g9]at J
   obtain⟨rfl,rfl⟩:=J
   obtain⟨c,H,I⟩:=j σ args _ cs w d g
   exact⟨c,w,H,σ,I,i,.refl _ _ _⟩
  ·cases J
def YA:List K->Option K
 |[x]=>some x
 |_=>none
theorem ay_{f:FuncId}(h:nN P f Extern.AbiNoEscape.same):ls P ρ f (fun a d=>match YA a with|some v=>some (v,d)|none=>none):=
 h.pure fun σ args v cs w b J=>by
  unfold YA at J
  split at J
  ·cases J
   obtain⟨x,c,rfl⟩:=iW b
   exact⟨x,rfl,c⟩
  ·cases J
def Lh(c:Nat):List Nat->Nat->Int
 |[],_=> -1
 |b::l,i=>bif Nat.beq b c then .ofNat i else Lh c l (i+1)
theorem amY{a b:Nat}(c:a<256)(A:b<256):(UInt8.ofNat a==UInt8.ofNat b)=Nat.beq a b:=by
 by_cases h:a=b
 ·subst h;simp
 ·rw[FP h,l8];intro e;have:=ih UInt8.toNat e;simp[ry c,ry A]at this;exact h this
theorem ah0{c:Nat}(a:c<256):∀(s:List Nat) (i:Nat),jn s->Lh c s i=if Lib.indexByte (s.map UInt8.ofNat) (UInt8.ofNat c)= -1 then-1 else Lib.indexByte (s.map UInt8.ofNat) (UInt8.ofNat c)+i
 |[],i,_=>by simp[Lh,Lib.indexByte]
 |b::s,i,h=>by
  obtain⟨H,I⟩:=zY h
  simp only[Lh,oa,Lib.indexByte,amY H a]
  cases A:Nat.beq b c with
  |true=>simp
  |false=>
   simp only[iK,p0,oV]
   rw[ah0 a s (i+1) I]
   have:=Lib.indexByte_ge (s.map UInt8.ofNat) (UInt8.ofNat c)
   by_cases e:Lib.indexByte (s.map UInt8.ofNat) (UInt8.ofNat c)= -1
   ·simp[e]
   ·have d:(Lib.indexByte (s.map UInt8.ofNat) (UInt8.ofNat c)== -1)=false:=by simpa using e
    rw[bn e,d]
    simp only[p0,oV]
    rw[bn z]
    omega
def WT:List K->Option K
 |[.str s,.int .u8 (.ofNat c)]=>bif Nat.blt c 256 then Hz (Lh c s 0) fun n=>some (.int .i64 n)else none
 |_=>none
theorem N8(s:List Nat):(fz s).data.toList=s.map UInt8.ofNat:=by simp[fz]
theorem aw4{f:FuncId}(h:nN P f Extern.BytealgIndexByte.indexByte):ls P ρ f (fun a j=>match WT a with|some v=>some (v,j)|none=>none):=
 h.pure fun σ args v cs w d J=>by
  unfold WT at J
  split at J
  ·rename_i s c
   cases b:Nat.blt c 256 with
   |false=>rw[b]at J;simp at J
   |true=>
    rw[b]at J
    simp only[er,Q_,cb]at J
    subst J
    have k:c<256:=by simpa using b
    obtain⟨x,y,g,i,rfl⟩:=j6 d
    obtain⟨ok,rfl⟩:=qd g
    obtain rfl:=m0 i
    refine⟨_,Lib.run_indexByteString _ _ _,?_⟩
    rw[ah0 k s 0 ok,N8]
    simp only[aE,Co,aa7,Nat.toUInt8]
    congr 2
    split
    ·rename_i e;rw[e]
    ·simp
  ·cases J
def FV(c:Nat):List Nat->Nat->Nat
 |[],n=>n
 |b::l,n=>bif Nat.beq b c then FV c l (n+1)else FV c l n
theorem TW{c:Nat}(a:c<256):∀(s:List Nat) (n:Nat),jn s->FV c s n=n+Lib.countByte (s.map UInt8.ofNat) (UInt8.ofNat c)
 |[],n,_=>by simp[FV,Lib.countByte]
 |b::s,n,h=>by
  obtain⟨H,I⟩:=zY h
  have e:=amY H a
  simp only[FV,oa,Lib.countByte,List.count_cons]
  rw[e,TW a s (n+1) I,TW a s n I]
  cases Nat.beq b c<;>simp[Lib.countByte]<;>omega
def T9:List K->Option K
 |[.str s,.int .u8 (.ofNat c)]=>bif Nat.blt c 256 then sr (FV c s 0)else none
 |_=>none
theorem ar7{f:FuncId}(h:nN P f Extern.BytealgCount.count):ls P ρ f (fun a i=>match T9 a with|some v=>some (v,i)|none=>none):=
 h.pure fun σ args v cs w d J=>by
  unfold T9 at J
  split at J
  ·rename_i s c
   cases b:Nat.blt c 256 with
   |false=>rw[b]at J;simp at J
   |true=>
    rw[b]at J
    simp only[er,zW,cb]at J
    subst J
    have j:c<256:=by simpa using b
    obtain⟨x,y,e,g,rfl⟩:=j6 d
    obtain⟨ok,rfl⟩:=qd e
    obtain rfl:=m0 g
    refine⟨_,Lib.run_countString _ _ _,?_⟩
    rw[TW j s 0 ok,N8]
    simp[aE,Nat.toUInt8]
  ·cases J
def Oe:List Nat->List Nat->Int
 |[],[]=>0
 |[],_::_=> -1
 |_::_,[]=>1
 |a::l,b::m=>bif Nat.blt a b then-1 else bif Nat.blt b a then 1 else Oe l m
theorem amZ{a b:Nat}(c:a<256)(A:b<256):(UInt8.ofNat a<UInt8.ofNat b)↔a<b:=by
 rw[anT];simp[ry c,ry A]
theorem aq8{c:Type}(a b:Nat)(x y:c):(bif Nat.blt a b then x else y)=if a<b then x else y:=by
 by_cases h:a<b
 ·rw[cv h,show Nat.blt a b=true by simpa using h];rfl
 ·rw[bn h,show Nat.blt a b=false from Bool.eq_false_iff.2 fun e=>h (by simpa using e)];rfl
theorem aea:∀(a b:List Nat),jn a->jn b->Oe a b=Lib.compareBytes (a.map UInt8.ofNat) (b.map UInt8.ofNat)
 |[],[],_,_=>rfl
 |[],_::_,_,_=>rfl
 |_::_,[],_,_=>rfl
 |a::l,b::m,H,I=>by
  obtain⟨bO,cu⟩:=zY H
  obtain⟨c,d⟩:=zY I
  simp only[Oe,oa,Lib.compareBytes,aq8,amZ bO c,amZ c bO]
  rw[aea l m cu d]
def TZ:List K->Option K
 |[.str s,.str t]=>Hz (Oe s t) fun n=>some (.int .i64 n)
 |_=>none
theorem arW{f:FuncId}(h:nN P f Extern.BytealgCompare.compare):ls P ρ f (fun a e=>match TZ a with|some v=>some (v,e)|none=>none):=
 h.pure fun σ args v cs w b J=>by
  unfold TZ at J
  split at J
  ·rename_i s t
   simp only[Q_,cb]at J
   subst J
   obtain⟨x,y,c,d,rfl⟩:=j6 b
   obtain⟨g,rfl⟩:=qd c
   obtain⟨i,rfl⟩:=qd d
   refine⟨_,Lib.run_compareString _ _ _,?_⟩
   rw[aea s t g i,N8,N8]
   simp[aE]
  ·cases J
def XQ(e:Nat):List K->ay->Option (K×ay)
 |[.int .i64 (.ofNat n)],h=>bif Nat.ble n 281474976710656&&Nat.blt h.nx en then some (.slice h.nx 0 n 1 none,h.add (.cells e [] false true))else none
 |_,_=>none
theorem ay'{f:FuncId}{d:Array TypeId}{t e:TypeId}(h:nN P f (Extern.BytealgMakeNoZero.makeNoZero d #[t]))(ah:P.underlying t=some (.slice e)):ls P ρ f (XQ e):=
 h.fn fun σ args a v q cs w o j c J=>by
  unfold XQ at J
  split at J
  ·rename_i n
   cases b:(Nat.ble n 281474976710656&&Nat.blt a.nx en)with
   |false=>rw[b]at J;simp at J
   |true=>
    rw[b]at J
    simp only[er,cb,g9]at J
    obtain⟨rfl,rfl⟩:=J
    simp only[dz]at b
    have H:=gP b.1
    have I:a.nx<en:=by simpa using b.2
    obtain⟨x,k,rfl⟩:=iW j
    obtain rfl:=m0 k
    obtain⟨cells,l,r,_⟩:=Lib.run_makeNoZero (P:=P) w d t e ah n H
    have g:=c.jy a.nx (aZ _)
    have m:io ρ (dW σ a.nx ⟨w.heap.size,0,cells.size⟩) ⟨w.heap.size,0,cells.size⟩ (some (.cells cells e)) (.cells e [] false true):=
     ⟨cells,(0,0),rfl,am,am,(fun h=>by cases h),⟨[],rfl,fun i hi=>by simp at hi⟩,fun _ i _ _=>am⟩
    refine⟨_,_,l,dW σ a.nx ⟨w.heap.size,0,cells.size⟩,?_,c.add g I (oT _) (Cv _) m,.add g I (aZ _) (oT _)⟩
    simp[aE,dW,i9]
  ·cases J
end
def L6(E:iN)(key av:Nat)(d:S->K):jH:=fun x=>bif Nat.blt (x.h.nx+2) en then
 match d x.s with
 |.fn f first cap=>match E.call f (first++([.rt (x.h.nx+1)]++cap)) ((x.h.add .deferred).add (.loop key .ready none x.h.nx x.s av))with
  |some (_,c)=>match c.cK (x.h.nx+1)with
   |some (.loop _ .ready none _ _ _)=>some (.hD,⟨x.s,c.dD (x.h.nx+1) none,x.h.nx::x.gA⟩)
   |some (.loop _ .done (some .ret) _ _ _)=>some (.ret,⟨x.s,c.dD (x.h.nx+1) none,x.h.nx::x.gA⟩)
   |some (.loop _ .done (some (.exit id)) _ _ _)=>some (.exit id,⟨x.s,c.dD (x.h.nx+1) none,x.h.nx::x.gA⟩)
   |_=>none
  |none=>none
 |_=>none
 else none
def Yd(E:iN)(bo key av:Nat)(d:S->K):jH:=fun x=>bif Nat.blt (x.h.nx+1) en then
 match x.h.cK bo with
 |some (.loop _ _ _ gA _ _)=>match d x.s with
  |.fn f first cap=>match E.call f (first++([.rt x.h.nx]++cap)) (x.h.add (.loop key .ready none gA x.s av))with
   |some (_,c)=>match c.cK x.h.nx with
    |some (.loop _ .ready none _ _ _)=>some (.hD,⟨x.s,c.dD x.h.nx none,x.gA⟩)
    |some (.loop _ .done (some .ret) _ _ _)=>some (.ret,⟨x.s,c.dD x.h.nx none,x.gA⟩)
    |some (.loop _ .done (some (.exit id)) _ _ _)=>some (.exit id,⟨x.s,c.dD x.h.nx none,x.gA⟩)
    |_=>none
   |none=>none
  |_=>none
 |_=>none
 else none
def Hn:List Nat->List K->S->S
 |t::c,v::vs,s=>Hn c vs (put t v s)
 |_,_,s=>s
structure NH where
 av:Nat
 params:List Nat
 abC:Nat->jH
 abD:Nat->jH
def Rr(T:Nat->Option NH)(b:Nat)(args:List K)(h:ay):Option (K×ay):=match h.cK b with
 |some (.loop key .ready _ _ s av)=>match T key with
  |some c=>bif Nat.beq av c.av&&Nat.beq args.length c.params.length&&Nat.blt b en then
    match c.abC b ⟨Hn c.params args s,h,[]⟩with
    |some (.hD,⟨p,H,[]⟩)=>match H.cK b with
     |some (.loop n .ready j m l o)=>match c.abD b ⟨p,H.dD b (some (.loop n .busy j m l o)),[]⟩with
      |some (e,⟨_,I,[]⟩)=>match I.cK b with
       |some (.loop g _ _ d i f)=>match e with
        |.hD=>some (.bool true,I.dD b (some (.loop g .ready none d i f)))
        |e=>some (.bool false,I.dD b (some (.loop g .done (some e) d i f)))
       |_=>none
      |_=>none
     |_=>none
    |_=>none
   else none
  |none=>none
 |_=>none
section
variable {P:Program} {ρ:b4}
structure acG (P:Program) (ρ:b4) (T:Nat->Option NH):Prop where
 ok:∀key bV l,T key=some bV->ρ.nC key=some l->l.params.toList=bV.params/\(∀t∈bV.params,t<bV.av)/\
  ∀bo,mc P ρ bV.av (rz l.fn (some bo)) l.assign (bV.abC bo)/\mc P ρ bV.av (rz l.fn (some bo)) l.body (bV.abD bo)
theorem alk{σ:bl}{av:Nat}:∀(d:List Nat) (vs:List K) (cs:List Value) (s:S) (a:Array Value),(∀t∈d,t<av)->bU ρ σ vs=some cs->mY ρ σ av s a->
  mY ρ σ av (Hn d vs s) ((d.zip cs).foldl (fun tmps (x:Nat×Value)=>tmps.setIfInBounds x.1 x.2) a)
 |[],vs,cs,s,a,_,_,h=>by cases vs<;>simpa[Hn]using h
 |t::d,[],cs,s,a,_,e,h=>by
  simp[bU]at e;subst e
  simpa[Hn]using h
 |t::d,v::vs,cs,s,a,ag,e,h=>by
  obtain⟨c,f,H,I,rfl⟩:=uT e
  simp only[Hn,List.zip_cons_cons,HQ]
  exact alk d vs f _ _ (fun t ah=>ag t (i6 _ ah)) I (h.put (ag t (mQ ..)) H)
variable {b:lr} {a:Array Value} {ds:List Deferred} {k:List Item} {cs:List Frame} {w:World}
theorem Hr{r:Nat}{l:Loop}(h:w.heap[r]? =some (.loop l)):(Instr.getLoop r).run P w=.ok l w:=by
 simp[Instr.getLoop,Md (P:=P) h]
theorem aCM{r:Nat}{l:Loop}{w':World}(A:b.roundOf=some r)(c:(Instr.beginRound r).run P w=.ok () w'):
  step P (lone (fr b a ds (.beginRound::k)) cs w)=.next (lone (fr b a ds k) cs w'):=
 mp (by simp[stepG,stepG.exec,stepG.apply,fr,A,c,Frame.finish])
theorem aCZ{r:Nat}{c:Frame}{v:Value}{w':World}(A:b.roundOf=some r)(d:b.kind=.normal)(e:(Instr.endRound r none).run P w=.ok v w'):
  step P (lone (fr b a ds []) (c::cs) w)=.next (lone (c.finish v) cs w'):=
 mp (by simp[stepG,stepG.exec,fr,A,d,MO,e,doReturn])
theorem aC1{r:Nat}{c:Frame}{v:Value}{w':World}(A:b.roundOf=some r)(d:b.kind=.normal)(e:(Instr.endRound r (some .ret)).run P w=.ok v w'):
  step P (lone (fr b a ds (.code .ret::k)) (c::cs) w)=.next (lone (c.finish v) cs w'):=
 mp (by simp[stepG,stepG.exec,fr,A,d,MO,e,doReturn])
theorem aC0{r id:Nat}{c:Frame}{v:Value}{w':World}(A:b.roundOf=some r)(d:b.kind=.normal)(f:exitTo id k=none)(e:(Instr.endRound r (some (.exit id))).run P w=.ok v w'):
  step P (lone (fr b a ds (.code (.exit id)::k)) (c::cs) w)=.next (lone (c.finish v) cs w'):=
 mp (by simp[stepG,stepG.exec,fr,A,d,f,MO,e,doReturn])
theorem c6.loop{σ:bl}{h:ay}{w:World}(r:c6 ρ σ h w){b:Nat}{key:Nat}{aj:LoopState}{c:Option aD}{gA:Nat}{s:S}{av:Nat}(A:h.cK b=some (.loop key aj c gA s av)):∃p a q l,σ b=some p/\p.dA=0/\ρ.nC key=some l/\mY ρ σ av s a/\σ gA=some q/\w.heap[p.aU]? =some (.loop {l with state:=aj,pending:=c.map aD.code,tmps:=a,defers:=q.aU})/\p.aU<w.heap.size:=by
 obtain⟨p,ag,aq,H,a,q,l,I,e,d,f⟩:=r.lt A;exact⟨p,a,q,l,ag,H,I,e,d,f,aq⟩
theorem aeH{σ:bl}{ds:List Deferred}(h:uV σ []=some ds):ds=[]:=by
 simp[uV]at h;exact h
theorem aE7{T:Nat->Option NH}(dC:acG P ρ T):adf P ρ (Rr T):=by
 intro σ b args h v bf cs w p al h8 bw ag J;unfold Rr at J;split at J
 ·rename_i key oJ gA s av A;split at J
  ·rename_i j dd;cases M:(Nat.beq av j.av&&Nat.beq args.length j.params.length&&Nat.blt b en)with
   |false=>rw[M]at J;simp at J
   |true=>
    rw[M]at J;simp only[er]at J;simp only[dz]at M;obtain⟨⟨ak,V⟩,L⟩:=M;obtain rfl:=gV ak;have V:=gV V;have L:b<en:=by simpa using L
    split at J
    ·rename_i cg H af;split at J
     ·rename_i W3 t Ul Mg XT W;split at J
      ·rename_i e jq I ah;split at J
       ·rename_i S Q6 ax Q U R bm;obtain⟨bQ,a0,q,l,ew,O9,aa,bx,az,qp,aq⟩:=bw.loop A;obtain rfl:p=bQ:=gn (ag.symm.trans ew);obtain⟨yc,zX,am⟩:=dC.ok key j l dd aa;obtain⟨ar,au⟩:=am b;have dh:=me h8;have Bz:l.params.size=j.params.length:=by rw[←yc];simp
        refine⟨l.fn,(l.params.zip cs.toArray).foldl (fun tmps (x:Nat×Value)=>tmps.setIfInBounds x.1 x.2) a0,l.assign,l.body,?_,?_⟩
        ·have:¬(cs.toArray.size≠l.params.size):=bu;simp only[Instr.yield,d',Hr qp,dX];rw[bn this];simp only[eQ,dX]
        ·intro c g;have l3:(l.params.zip cs.toArray).foldl (fun tmps (x:Nat×Value)=>tmps.setIfInBounds x.1 x.2) a0=(j.params.zip cs).foldl (fun tmps (x:Nat×Value)=>tmps.setIfInBounds x.1 x.2) a0:=by rw[←yc,←ank];simp[Array.toList_zip]
         have kh:Frame.round p.aU l.fn ((l.params.zip cs.toArray).foldl (fun tmps (x:Nat×Value)=>tmps.setIfInBounds x.1 x.2) a0) l.assign l.body .normal=
           fr ⟨l.fn,.normal,some p.aU⟩ ((j.params.zip cs).foldl (fun tmps (x:Nat×Value)=>tmps.setIfInBounds x.1 x.2) a0) [] [.code l.assign,.beginRound,.code l.body]:=by
          rw[l3];rfl
         rw[kh];obtain⟨iy,bO,m2,K,z,G,b2⟩:=ar σ _ _ _ af ⟨l.fn,.normal,some p.aU⟩ ⟨p,ag,rfl,rfl⟩ [.beginRound,.code l.body] (c::g) _ [] w ⟨alk j.params args cs s a0 zX h8 bx,bw,rfl,al⟩;obtain rfl:=aeH z.d;obtain⟨dS,E,B,n,ir,ab,re,OV,it,X,D2⟩:=z.h.loop W;obtain rfl:p=dS:=gn ((G.ext _ _ ag).symm.trans ir);obtain⟨dy,cW⟩:=z.h.put (x:=.loop W3 .busy t Ul Mg XT) (o:=.loop {n with state:=.busy,pending:=t.map aD.code,tmps:=E,defers:=B.aU}) W ir L D2 ⟨ab,E,B,n,re,OV,it,rfl⟩;have bc:(Instr.beginRound p.aU).run P K=.ok () (gj K p.aU (.loop {n with state:=.busy,pending:=t.map aD.code,tmps:=E,defers:=B.aU})):=by simp only[Instr.beginRound,d',Hr X,dX,ED (P:=P) X (by intro c e f;simp)];rfl
         obtain⟨j1,cu,Ov,i,N,Z,cL⟩:=au iy _ _ _ ah ⟨l.fn,.normal,some p.aU⟩ ⟨p,G.ext _ _ ag,rfl,rfl⟩ [] (c::g) bO [] _ ⟨z.s,dy,rfl,z.g⟩;obtain rfl:=aeH N.d;obtain⟨eo,F,D,y,i0,ad,xX,ae,m7,Y,pL⟩:=N.h.loop bm;obtain rfl:p=eo:=gn ((Z.ext _ _ (G.ext _ _ ag)).symm.trans i0);have cg:Steps P (lone (fr ⟨l.fn,.normal,some p.aU⟩ ((j.params.zip cs).foldl (fun tmps (x:Nat×Value)=>tmps.setIfInBounds x.1 x.2) a0) [] [.code l.assign,.beginRound,.code l.body]) (c::g) w)
           (lone (fr ⟨l.fn,.normal,some p.aU⟩ bO [] [.code l.body]) (c::g) (gj K p.aU (.loop {n with state:=.busy,pending:=t.map aD.code,tmps:=E,defers:=B.aU}))):=rv b2 (.one (aCM (l:=n) rfl bc))
         have O:∀(aj:LoopState) (d:Option aD) (C:Bool),(Instr.endRound p.aU (d.map aD.code)).run P i=.ok (.bool C) (gj i p.aU (.loop {y with state:=aj,pending:=d.map aD.code,tmps:=F,defers:=D.aU}))->
           v=.bool C->bf=I.dD b (some (.loop S aj d Q U R))->
           step P (match e with|.hD=>lone (fr ⟨l.fn,.normal,some p.aU⟩ cu [] []) (c::g) i|.ret=>lone (fr ⟨l.fn,.normal,some p.aU⟩ cu [] []) (c::g) i|.exit _=>lone (fr ⟨l.fn,.normal,some p.aU⟩ cu [] []) (c::g) i)=step P (lone (fr ⟨l.fn,.normal,some p.aU⟩ cu [] []) (c::g) i)->
           ∀m,Steps P (lone (fr ⟨l.fn,.normal,some p.aU⟩ bO [] [.code l.body]) (c::g) (gj K p.aU (.loop {n with state:=.busy,pending:=t.map aD.code,tmps:=E,defers:=B.aU}))) m->
            step P m=.next (lone (c.finish (.bool C)) g (gj i p.aU (.loop {y with state:=aj,pending:=d.map aD.code,tmps:=F,defers:=D.aU})))->
           ∃u w',oc ρ σ h w v bf u w'/\Steps P (lone (fr ⟨l.fn,.normal,some p.aU⟩ ((j.params.zip cs).foldl (fun tmps (x:Nat×Value)=>tmps.setIfInBounds x.1 x.2) a0) [] [.code l.assign,.beginRound,.code l.body]) (c::g) w) (lone (c.finish u) g w'):=fun aj d C aw WE ai _ m an eE=>by
          subst WE;subst ai;obtain⟨dk,dB⟩:=N.h.put (x:=.loop S aj d Q U R) (o:=.loop {y with state:=aj,pending:=d.map aD.code,tmps:=F,defers:=D.aU}) bm i0 L pL ⟨ad,F,D,y,xX,ae,m7,rfl⟩;exact⟨.bool C,_,⟨j1,rfl,dk,G.trans (cW.trans (Z.trans dB))⟩,rv cg (rv an (.one eE))⟩
         have r:∀(d:Option aD),(Instr.endRound p.aU (d.map aD.code)).run P i=.ok (.bool d.isNone) (gj i p.aU (.loop {y with state:=if d.isNone then .ready else .done,pending:=d.map aD.code,tmps:=F,defers:=D.aU})):=fun d=>by simp only[Instr.endRound,d',Hr Y,dX,ED (P:=P) Y (by intro c e f;simp),eQ];cases d<;>rfl
         cases e with
         |hD=>simp only[cb,g9]at J;exact O .ready none true (r none) J.1.symm J.2.symm rfl _ cL (aCZ rfl rfl (r none))
         |exit id=>simp only[cb,g9]at J;obtain⟨eb,hY,cL⟩:=cL;exact O .done (some (.exit id)) false (r (some (.exit id))) J.1.symm J.2.symm rfl _ cL (aC0 rfl rfl (by rw[hY];rfl) (r (some (.exit id))))
         |ret=>simp only[cb,g9]at J;obtain⟨eb,cL⟩:=cL;exact O .done (some .ret) false (r (some .ret)) J.1.symm J.2.symm rfl _ cL (aC1 rfl rfl (r (some .ret)))
       ·cases J
      ·cases J
     ·cases J
    ·cases J
  ·cases J
 ·cases J
def Eh(r:Nat):Deferred:={target:=.collected r,args:=#[]}
theorem aBB{f:FuncId}{params:Array Tmp}{assign body:Code}: (Instr.enterLoop f a params assign body none).run P w=.ok (w.heap.size+1,[Eh w.heap.size]) {w with heap:=(w.heap.push (.deferred (some []))).push (.loop {state:=.ready,pending:=none,fn:=f,tmps:=a,params,assign,body,defers:=w.heap.size})}:=by
 simp only[Instr.enterLoop,d',eQ,dX,RG,Eh,World.alloc];simp
theorem aBC{f:FuncId}{params:Array Tmp}{assign body:Code}{l:Nat}{r:Loop}(c:w.heap[l]? =some (.loop r)): (Instr.enterLoop f a params assign body (some l)).run P w=.ok (w.heap.size,[]) {w with heap:=w.heap.push (.loop {state:=.ready,pending:=none,fn:=f,tmps:=a,params,assign,body,defers:=r.defers})}:=by
 simp only[Instr.enterLoop,d',Hr c,eQ,dX,RG,World.alloc]
def yE(f:Operand)(l:Nat):Call:={callee:=.value f,args:=#[.const (.func (.yield l) #[] #[])],argTypes:=#[]}
theorem aCT{f:Operand}{params:Array Tmp}{assign body:Code}{c:World}{l:Nat}{mk:List Deferred}{g:FuncId}{args:Array Value}(A:b.roundOf=none) (aL:(Instr.enterLoop b.fn a params assign body none).run P w=.ok (l,mk) c) (Y:(do let d ←resolve (dT a) (yE f l) 0;invoke d.target d.args:Sem Next).run P c=.ok (.enter g args) c): step P (lone (fr b a ds (.code (.rangeFunc f params assign body)::k)) cs w)=.next (lone (Frame.enter P g args .normal) (fr b a (mk++ds) (.inRangeFunc l::k)::cs) c):=by
 exact ajr
theorem aCV{f:Operand}{params:Array Tmp}{assign body:Code}{c e:World}{l:Nat}{mk:List Deferred}{v:Value}(A:b.roundOf=none) (aL:(Instr.enterLoop b.fn a params assign body none).run P w=.ok (l,mk) c) (Y:(do let d ←resolve (dT a) (yE f l) 0;invoke d.target d.args:Sem Next).run P c=.ok (.value v) e): step P (lone (fr b a ds (.code (.rangeFunc f params assign body)::k)) cs w)=.next (lone (fr b a (mk++ds) (.endRangeFunc l::k)) cs e):=by
 exact ai'
theorem aCU{f:Operand}{params:Array Tmp}{assign body:Code}{c:World}{l:Nat}{mk:List Deferred}{g:FuncId}{args:Array Value}{p:Nat}(A:b.roundOf=some p) (aL:(Instr.enterLoop b.fn a params assign body (some p)).run P w=.ok (l,mk) c) (Y:(do let d ←resolve (dT a) (yE f l) 0;invoke d.target d.args:Sem Next).run P c=.ok (.enter g args) c): step P (lone (fr b a ds (.code (.rangeFunc f params assign body)::k)) cs w)=.next (lone (Frame.enter P g args .normal) (fr b a (mk++ds) (.inRangeFunc l::k)::cs) c):=by
 exact ajr
theorem aCW{f:Operand}{params:Array Tmp}{assign body:Code}{c e:World}{l:Nat}{mk:List Deferred}{v:Value}{p:Nat}(A:b.roundOf=some p) (aL:(Instr.enterLoop b.fn a params assign body (some p)).run P w=.ok (l,mk) c) (Y:(do let d ←resolve (dT a) (yE f l) 0;invoke d.target d.args:Sem Next).run P c=.ok (.value v) e): step P (lone (fr b a ds (.code (.rangeFunc f params assign body)::k)) cs w)=.next (lone (fr b a (mk++ds) (.endRangeFunc l::k)) cs e):=by
 exact ai'
theorem amt{l:Nat}{c:Option Code}{w':World}(d:(Instr.endLoop l).run P w=.ok c w'):
  step P (lone (fr b a ds (.endRangeFunc l::k)) cs w)=.next (lone (fr b a ds ((c.map Item.code).toList++k)) cs w'):=
 mp (by simp[stepG,stepG.exec,fr,MO,d])
theorem afp(v:Value)(l:Nat):(fr b a ds (.inRangeFunc l::k)).finish v=fr b a ds (.endRangeFunc l::k):=rfl
theorem aCc{E:iN}(cP:rB P ρ E){key av:Nat}{X:S->K}{u:Operand}{params:Array Tmp}{assign body:Code}{g:Loop} (aa:ρ.nC key=some g)(Wo:g.params=params)(r3:g.assign=assign)(j8:g.body=body)(bI:IS P ρ av u X):mc P ρ av (rz g.fn none) (.rangeFunc u params assign body) (L6 E key av X):=by
 intro σ x e B h b A k cs a ds w i;obtain⟨U,bm⟩:=A;unfold L6 at h;cases aq:Nat.blt (x.h.nx+2) en with
 |false=>rw[aq]at h;simp at h
 |true=>
  rw[aq]at h;simp only[er]at h;have aq:x.h.nx+2<en:=by simpa using aq
  split at h
  ·rename_i f first cap zz
   split at h
   ·rename_i e8 J VP;have o:=bI σ x.s a i.g i.s;rw[zz]at o;have Y:=i.h.jy x.h.nx (aZ _);have N:=i.h.add (nx:=x.h.nx+1) (tot:=0) (d:=w.drawn) (obj:=.deferred (some [])) (x:=.deferred) Y z (oT _) (Cv _) ⟨rfl,rfl⟩;have rD:jj σ x.h w _ (x.h.add .deferred) {w with heap:=w.heap.push (.deferred (some [])),drawn:=w.drawn}:=jj.add (tot:=0) (obj:=.deferred (some [])) (x:=.deferred) Y z (aZ _) (oT _);have L:=N.jy (x.h.nx+1) (aZ _);have DY:g={state:=g.state,pending:=g.pending,fn:=b.fn,tmps:=g.tmps,params,assign,body,defers:=g.defers}:=by rw[bm,←Wo,←r3,←j8]
    have IR:io ρ (dW (dW σ x.h.nx ⟨w.heap.size,0,0⟩) (x.h.nx+1) ⟨w.heap.size+1,0,0⟩) ⟨w.heap.size+1,0,0⟩
      (some (.loop {state:=.ready,pending:=none,fn:=b.fn,tmps:=a,params,assign,body,defers:=w.heap.size})) (.loop key .ready none x.h.nx x.s av):=by
     refine⟨rfl,a,⟨w.heap.size,0,0⟩,g,aa,(i.s.ext rD.ext).ext (.dD L),by simp[dW],?_⟩;rw[DY];rfl
    have Si:=N.add (nx:=x.h.nx+1+1) (tot:=0) (d:=w.drawn) (x:=.loop key .ready none x.h.nx x.s av) L z (oT _) (Cv _) (obj:=.loop {state:=.ready,pending:=none,fn:=b.fn,tmps:=a,params,assign,body,defers:=w.heap.size}) (by simpa using IR);have ab:=jj.add (h:=x.h.add .deferred) (w:={w with heap:=w.heap.push (.deferred (some [])),drawn:=w.drawn}) (nx:=x.h.nx+1+1) (tot:=0) (d:=w.drawn) (x:=.loop key .ready none x.h.nx x.s av) L z (aZ _) (oT _) (obj:=.loop {state:=.ready,pending:=none,fn:=b.fn,tmps:=a,params,assign,body,defers:=w.heap.size});have R:=rD.trans ab;simp only[aE]at o;split at o
    ·rename_i O Z KH jA;have o:=gn o;have G:ke σ (dW (dW σ x.h.nx ⟨w.heap.size,0,0⟩) (x.h.nx+1) ⟨(w.heap.push (.deferred (some []))).size,0,0⟩):=R.ext;have h8:bU ρ (dW (dW σ x.h.nx ⟨w.heap.size,0,0⟩) (x.h.nx+1) ⟨(w.heap.push (.deferred (some []))).size,0,0⟩) (first++([.rt (x.h.nx+1)]++cap))=some (O++([.func (.yield (w.heap.size+1)) #[] #[]]++Z)):=
      uS (pD G KH) (uS (by simp[bU,aE,dW]) (pD G jA))
     have V0:jE P (dW (dW σ x.h.nx ⟨w.heap.size,0,0⟩) (x.h.nx+1) ⟨(w.heap.push (.deferred (some []))).size,0,0⟩):=i.g.ext G;have W:∀w',(do let d ←resolve (dT a) (yE u (w.heap.size+1)) 0;invoke d.target d.args:Sem Next).run P w'=(callFunc f (O++([Value.func (.yield (w.heap.size+1)) #[] #[]]++Z)).toArray).run P w':=fun w'=>by simp only[yE,resolve,←o,Deferred.ofValue,d',eQ,dX,invoke];congr 2;apply vE;simp[dT]
     have Q:=aBB (P:=P) (a:=a) (w:=w) (f:=b.fn) (params:=params) (assign:=assign) (body:=body);have kg:∀(c:Value) (l:World),oc ρ (dW (dW σ x.h.nx ⟨w.heap.size,0,0⟩) (x.h.nx+1) ⟨(w.heap.push (.deferred (some []))).size,0,0⟩) ((x.h.add .deferred).add (.loop key .ready none x.h.nx x.s av)) {w with heap:=(w.heap.push (.deferred (some []))).push (.loop {state:=.ready,pending:=none,fn:=b.fn,tmps:=a,params,assign,body,defers:=w.heap.size})} e8 J c l->
       Steps P (lone (fr b a ds (.code (.rangeFunc u params assign body)::k)) cs w) (lone (fr b a (Eh w.heap.size::ds) (.endRangeFunc (w.heap.size+1)::k)) cs l)->
       ∃σ' V uX w',xn P ρ av σ' B V uX w'/\jj σ x.h w σ' B.h w'/\CU P (lone (fr b a ds (.code (.rangeFunc u params assign body)::k)) cs w) b V uX k cs w' e:=fun c l ⟨r,ae,T,H⟩ ui=>by
      have x3:r (x.h.nx+1)=some ⟨w.heap.size+1,0,0⟩:=by have:=H.ext (x.h.nx+1) ⟨(w.heap.push (.deferred (some []))).size,0,0⟩ (by simp[dW]);simpa using this
      have ad:r x.h.nx=some ⟨w.heap.size,0,0⟩:=H.ext _ _ (by simp[dW]);have all:=R.trans H;have done:∀(eV:Nat) (aj:LoopState) (t:Option aD) (gA:Nat) (s:S) (m:Nat),J.cK (x.h.nx+1)=some (.loop eV aj t gA s m)->aj≠ .busy->B=⟨x.s,J.dD (x.h.nx+1) none,x.h.nx::x.gA⟩->
        ∃j,xn P ρ av r B a (Eh w.heap.size::ds) j/\jj σ x.h w r B.h j/\Steps P (lone (fr b a ds (.code (.rangeFunc u params assign body)::k)) cs w) (lone (fr b a (Eh w.heap.size::ds) (((t.map aD.code).map Item.code).toList++k)) cs j):=fun eV aj t gA s m n F mH=>by
       subst mH;obtain⟨p,a3,q,hp,ag,O9,mE,ah,az,qp,V9⟩:=T.loop n;obtain rfl:(⟨w.heap.size+1,0,0⟩:lT)=p:=gn (x3.symm.trans ag);obtain⟨aW,bb⟩:=T.U6 n ag z (.loop {hp with state:=.exhausted,pending:=t.map aD.code,tmps:=a3,defers:=q.aU});have VV:(Instr.endLoop (w.heap.size+1)).run P l=.ok (t.map aD.code) (gj l (w.heap.size+1) (.loop {hp with state:=.exhausted,pending:=t.map aD.code,tmps:=a3,defers:=q.aU})):=by
        have b5:(aj==.busy)=false:=by simpa using F
        simp only[Instr.endLoop,d',Hr qp,dX,b5,p0,oV,eQ,ED (P:=P) qp (by intro c e f;simp)]
       refine⟨_,⟨i.s.ext all.ext,aW,?_,i.g.ext all.ext⟩,all.trans bb,rv ui (.one (amt VV))⟩;simp only[uV,ad,JM all.ext i.d,Eh]
      split at h
      ·rename_i eV gA s m n;simp only[cb,g9]at h;obtain⟨rfl,rfl⟩:=h;obtain⟨j,y,C,D⟩:=done eV .ready none gA s m n am rfl;exact⟨r,a,_,j,y,C,show Steps _ _ _ by simpa using D⟩
      ·rename_i eV gA s m n;simp only[cb,g9]at h;obtain⟨rfl,rfl⟩:=h;obtain⟨j,y,C,D⟩:=done eV .done (some .ret) gA s m n am rfl;exact⟨r,a,_,j,y,C,k,by simpa[aD.code]using D⟩
      ·rename_i eV id gA s m n;simp only[cb,g9]at h;obtain⟨rfl,rfl⟩:=h;obtain⟨j,y,C,D⟩:=done eV .done (some (.exit id)) gA s m n am rfl;exact⟨r,a,_,j,y,C,k,rfl,by simpa[aD.code]using D⟩
      ·cases h
     rcases cP.call f _ _ _ _ _ _ _ V0 h8 Si VP with⟨c,l,M,I⟩|⟨M,I⟩
     ·refine kg c l I (.one ?_);exact aCV U Q (by rw[W];exact M)
     ·obtain⟨c,l,VC,F⟩:=I (fr b a (Eh w.heap.size::ds) (.inRangeFunc (w.heap.size+1)::k)) cs;rw[afp]at F;exact kg c l VC (.head (aCT U Q (by rw[W];exact M)) F)
    ·cases o
   ·cases h
  ·cases h
theorem aCd{bo:Nat}{E:iN}(cP:rB P ρ E){key av:Nat}{X:S->K}{t:Operand}{params:Array Tmp}{assign body:Code}{g:Loop} (aa:ρ.nC key=some g)(Wo:g.params=params)(r3:g.assign=assign)(j8:g.body=body)(bI:IS P ρ av t X):mc P ρ av (rz g.fn (some bo)) (.rangeFunc t params assign body) (Yd E bo key av X):=by
 intro σ x e C h b A k cs a ds w i;obtain⟨LY,zE,U,bm⟩:=A;unfold Yd at h;cases aq:Nat.blt (x.h.nx+1) en with
 |false=>rw[aq]at h;simp at h
 |true=>
  rw[aq]at h;simp only[er]at h;have aq:x.h.nx+1<en:=by simpa using aq
  split at h
  ·rename_i ao an al gA ec ak oB;obtain⟨ab,ai,y,Lz,ah,_,_,_,ad,ae,_⟩:=i.h.loop oB;obtain rfl:LY=ab:=gn (zE.symm.trans ah);split at h
   ·rename_i f first cap zz
    split at h
    ·rename_i e8 L VP;have o:=bI σ x.s a i.g i.s;rw[zz]at o;have H:=i.h.jy x.h.nx (aZ _);have DY:g={state:=g.state,pending:=g.pending,fn:=b.fn,tmps:=g.tmps,params,assign,body,defers:=g.defers}:=by rw[bm,←Wo,←r3,←j8]
     have IR:io ρ (dW σ x.h.nx ⟨w.heap.size,0,0⟩) ⟨w.heap.size,0,0⟩
       (some (.loop {state:=.ready,pending:=none,fn:=b.fn,tmps:=a,params,assign,body,defers:=y.aU})) (.loop key .ready none gA x.s av):=by
      refine⟨rfl,a,y,g,aa,i.s.ext (.dD H),ke.dD H _ _ ad,?_⟩;rw[DY];rfl
     have Si:=i.h.add (nx:=x.h.nx+1) (tot:=0) (d:=w.drawn) (x:=.loop key .ready none gA x.s av) H z (oT _) (Cv _) (obj:=.loop {state:=.ready,pending:=none,fn:=b.fn,tmps:=a,params,assign,body,defers:=y.aU}) (by simpa using IR);have R:jj σ x.h w (dW σ x.h.nx ⟨w.heap.size,0,0⟩) (x.h.add (.loop key .ready none gA x.s av)) {w with heap:=w.heap.push (.loop {state:=.ready,pending:=none,fn:=b.fn,tmps:=a,params,assign,body,defers:=y.aU}),drawn:=w.drawn}:=jj.add (tot:=0) (x:=.loop key .ready none gA x.s av) H z (aZ _) (oT _);simp only[aE]at o;split at o
     ·rename_i N Y KH jA;have o:=gn o;have I:ke σ (dW σ x.h.nx ⟨w.heap.size,0,0⟩):=R.ext;have h8:bU ρ (dW σ x.h.nx ⟨w.heap.size,0,0⟩) (first++([.rt x.h.nx]++cap))=some (N++([.func (.yield w.heap.size) #[] #[]]++Y)):=
       uS (pD I KH) (uS (by simp[bU,aE,dW]) (pD I jA))
      have V0:jE P (dW σ x.h.nx ⟨w.heap.size,0,0⟩):=i.g.ext I;have W:∀w',(do let d ←resolve (dT a) (yE t w.heap.size) 0;invoke d.target d.args:Sem Next).run P w'=(callFunc f (N++([Value.func (.yield w.heap.size) #[] #[]]++Y)).toArray).run P w':=fun w'=>by simp only[yE,resolve,←o,Deferred.ofValue,d',eQ,dX,invoke];congr 2;apply vE;simp[dT]
      have Q:=aBC (P:=P) (a:=a) (w:=w) (f:=b.fn) (params:=params) (assign:=assign) (body:=body) ae;have Z:∀(c:Value) (l:World),oc ρ (dW σ x.h.nx ⟨w.heap.size,0,0⟩) (x.h.add (.loop key .ready none gA x.s av)) {w with heap:=w.heap.push (.loop {state:=.ready,pending:=none,fn:=b.fn,tmps:=a,params,assign,body,defers:=y.aU})} e8 L c l->
        Steps P (lone (fr b a ds (.code (.rangeFunc t params assign body)::k)) cs w) (lone (fr b a ds (.endRangeFunc w.heap.size::k)) cs l)->
        ∃σ' V uX w',xn P ρ av σ' C V uX w'/\jj σ x.h w σ' C.h w'/\CU P (lone (fr b a ds (.code (.rangeFunc t params assign body)::k)) cs w) b V uX k cs w' e:=fun c l ⟨u,ap,T,O⟩ ui=>by
       have x3:u x.h.nx=some ⟨w.heap.size,0,0⟩:=O.ext _ _ (by simp[dW]);have all:=R.trans O;have done:∀(eV:Nat) (aj:LoopState) (r:Option aD) (gA:Nat) (s:S) (m:Nat),L.cK x.h.nx=some (.loop eV aj r gA s m)->aj≠ .busy->C=⟨x.s,L.dD x.h.nx none,x.gA⟩->
         ∃j,xn P ρ av u C a ds j/\jj σ x.h w u C.h j/\Steps P (lone (fr b a ds (.code (.rangeFunc t params assign body)::k)) cs w) (lone (fr b a ds (((r.map aD.code).map Item.code).toList++k)) cs j):=fun eV aj r gA s m n G mH=>by
        subst mH;obtain⟨p,a3,q,hp,ag,O9,mE,ar,az,qp,V9⟩:=T.loop n;obtain rfl:(⟨w.heap.size,0,0⟩:lT)=p:=gn (x3.symm.trans ag);obtain⟨aW,bb⟩:=T.U6 n ag z (.loop {hp with state:=.exhausted,pending:=r.map aD.code,tmps:=a3,defers:=q.aU});have VV:(Instr.endLoop w.heap.size).run P l=.ok (r.map aD.code) (gj l w.heap.size (.loop {hp with state:=.exhausted,pending:=r.map aD.code,tmps:=a3,defers:=q.aU})):=by
         have b5:(aj==.busy)=false:=by simpa using G
         simp only[Instr.endLoop,d',Hr qp,dX,b5,p0,oV,eQ,ED (P:=P) qp (by intro c e f;simp)]
        exact⟨_,⟨i.s.ext all.ext,aW,JM all.ext i.d,i.g.ext all.ext⟩,all.trans bb,rv ui (.one (amt VV))⟩
       split at h
       ·rename_i eV gA s m n;simp only[cb,g9]at h;obtain⟨rfl,rfl⟩:=h;obtain⟨j,B,D,F⟩:=done eV .ready none gA s m n am rfl;exact⟨u,a,_,j,B,D,show Steps _ _ _ by simpa using F⟩
       ·rename_i eV gA s m n;simp only[cb,g9]at h;obtain⟨rfl,rfl⟩:=h;obtain⟨j,B,D,F⟩:=done eV .done (some .ret) gA s m n am rfl;exact⟨u,a,_,j,B,D,k,by simpa[aD.code]using F⟩
       ·rename_i eV id gA s m n;simp only[cb,g9]at h;obtain⟨rfl,rfl⟩:=h;obtain⟨j,B,D,F⟩:=done eV .done (some (.exit id)) gA s m n am rfl;exact⟨u,a,_,j,B,D,k,rfl,by simpa[aD.code]using F⟩
       ·cases h
      rcases cP.call f _ _ _ _ _ _ _ V0 h8 Si VP with⟨c,l,M,J⟩|⟨M,J⟩
      ·refine Z c l J (.one ?_);exact aCW U Q (by rw[W];exact M)
      ·obtain⟨c,l,VC,G⟩:=J (fr b a ds (.inRangeFunc w.heap.size::k)) cs;rw[afp]at G;exact Z c l VC (.head (aCU U Q (by rw[W];exact M)) G)
     ·cases o
    ·cases h
   ·cases h
  ·cases h
end
def UL(agg:Bool)(off n:Nat):List K->Option K
 |[.agg l]=>bif agg then(bif Nat.ble (off+n) l.length then some (.agg ((l.drop off).take n))else none)else l[off]?
 |_=>none
theorem aty{P:Program}{ρ:b4}{o:Oper}{t:TypeId}{x:Operand}{i:Nat}{q:Array Field}{f:Field}{d:TypeDesc}{b:TypeInfo}(h:o.op=.field t x i)(hu:P.underlying t=some (.struct q))(n:q[i]? =some f)(hd:P.underlying f.type=some d)(hi:P.info? f.type=some b):ku P ρ o (UL (tM d) f.offset b.size):=by
 intro σ s a w v E z J;unfold UL at J;split at J
 ·rename_i l;obtain⟨c,m,e⟩:=iW z;simp[fm,h,Op.operands]at e;simp only[aE,ig]at m;obtain⟨cs,g,rfl⟩:=m;have j:=QY (w:=w) hd;have C:=n6 (P:=P) (w:=w) hi;have k:=gF (P:=P) (w:=w) hu;have F:=me g;generalize tM d=r at J j;cases r with
  |true=>
   simp only[er]at J;cases p:Nat.ble (f.offset+b.size) l.length with
   |false=>simp[p]at J
   |true=>
    rw[p]at J;simp only[er,cb]at J;subst J;refine⟨.agg ((cs.drop f.offset).take b.size).toArray,by simp[aE,sU b.size (tS f.offset g)],?_⟩;have A:(cs.toArray.extract f.offset (f.offset+b.size))=((cs.drop f.offset).take b.size).toArray:=by apply vE;simp[List.extract_eq_drop_take]
    simp only[execOp,h,e,Instr.field,part,asAgg,d',k,dX,n,eQ,j,C,sA,A]
  |false=>
   simp only[iK]at J;obtain⟨y,B,D⟩:=xy g J;refine⟨y,D,?_⟩;have u:cs.toArray[f.offset]? =some y:=by simpa using B
   simp only[execOp,h,e,Instr.field,part,asAgg,d',k,dX,n,eQ,j,p0,oV,u]
 ·cases J
def YN(n esz:Nat)(c a:Bool):List K->Option K
 |.jo b off::r=>match pA c a n n r with
  |some (l,h)=>bif Nat.ble h n&&Nat.blt l n then some (.slice b (off+l*esz) (h-l) esz (some (n-l)))else none
  |none=>none
 |_=>none
theorem aCl{P:Program}{ρ:b4}{o:Oper}{t e:TypeId}{n:Nat}{x:Operand}{ee hi:Option Operand}(h:o.op=.slice t x ee hi none){d:TypeInfo}(hu:P.underlying t=some (.array n e))(y:P.info? e=some d):ku P ρ o (YN n d.size ee.isSome hi.isSome):=by
 intro σ s a w v E f J;have B:fm o a=dT a x::((ee.toArray++hi.toArray).toList.map (dT a)):=by simp[fm,h,Op.operands]
 rw[B]at f;unfold YN at J;split at J
 ·rename_i b off r;split at J
  ·rename_i l I A;cases c:(Nat.ble I n&&Nat.blt l n)with
   |false=>rw[c]at J;simp at J
   |true=>
    rw[c]at J;simp only[er,cb]at J;subst J;simp only[dz]at c;have D:l<n:=by simpa using c.2
    obtain⟨c1,C,k,g,i⟩:=uT f;simp only[pk]at i;obtain⟨ak,m⟩:=i;obtain⟨p,ag,j⟩:=uU k;rw[←m]at g;obtain⟨F,G,u⟩:=N6 (P:=P) (w:=w) (isSlice:=false) (len:=n) (cap:=n) A (aZ _) g;refine⟨.slice (some ⟨p.aU,p.dA+(off+l*d.size),none⟩) (I-l) (n-l),by simp only[aE,ag,ob,i9],?_⟩;have q:¬n=l:=z;rw[j]at ak;simp only[execOp,h,ak,abl,Instr.sliceAt,Instr.sureAddr,d',gF hu,dX,u,n6 y,eQ,xr,bn q,kr]
  ·cases J
 ·cases J
def JN(P:Program)(op:BinOp)(t:TypeId):Option oj:=match P.underlying t with
 |some (.int _)=>some (.pure (sO op))
 |some .string=>some (.pure (sO op))
 |some (.pointer e)=>match P.info? e with
  |some a=>if a.size≠0 then some (.pure (UB op))else none
  |none=>none
 |some (.slice _)=>some (.pure (UC op))
 |some (.map _ _)=>some (.pure (Uz op))
 |some (.func _ _ _)=>some (.pure (Ux op))
 |some .bool=>some (.pure (Uw op))
 |some (.struct b)=>if P.stoodInHeld t=false/\P.eqGuardType P.depth t=false then match Gd P b.toList with
   |some c=>some (.pure (UD op c))
   |none=>none
  else none
 |_=>none
def Uh(P:Program)(s d:TypeId):Option oj:=match P.underlying s,P.underlying d with
 |some (.slice e),some .string=>match P.underlying e with
  |some (.int .u8)=>some (.qv TE)
  |_=>none
 |some .string,some .string=>some (.pure T6)
 |some (.int _),some (.int k)=>some (.pure (T5 k))
 |some (.pointer t),some .unsafePointer=>match P.info? t with
  |some b=>if b.size≠0 then some (.qv aag)else none
  |none=>none
 |some .unsafePointer,some (.pointer u)=>match P.info? u with
  |some a=>if a.size≠0 then some (.qv (XZ u a.size))else none
  |none=>none
 |_,_=>none
def Uk(P:Program)(t:TypeId)(ee hi:Bool):Option oj:=match P.underlying t with
 |some .string=>some (.pure (YQ ee hi))
 |some (.slice e)=>match P.info? e with
  |some a=>some (.qv (YS a.size ee hi))
  |none=>none
 |some (.array n e)=>match P.info? e with
  |some a=>some (.pure (YN n a.size ee hi))
  |none=>none
 |_=>none
def JP(P:Program)(t:TypeId):Option oj:=match P.underlying t with
 |some .string=>some (.pure Lw)
 |some (.slice _)=>some (.pure Lv)
 |some (.map _ _)=>some (.qv Xb)
 |_=>none
def Ue(P:Program)(s b:TypeId):Option oj:=match P.underlying s,P.underlying b with
 |some (.slice e),some (.int _)=>match P.info? e with
  |some a=>match a.zero with
   |some ae=>if ae.cells.size=a.size/\a.size≠0 then match qw ae.cells.toList with
     |some zs=>some (.q' (To e zs a.size a.bytes))
     |none=>none
    else none
   |none=>none
  |none=>none
 |some (.slice e),some _=>match P.info? e with
  |some a=>match a.zero with
   |some ae=>if ae.cells.size=a.size/\a.size≠0 then some (.q' (Tn e a.size a.bytes))else none
   |none=>none
  |none=>none
 |_,_=>none
def JO(P:Program)(b:Builtin)(a:Array TypeId):Option oj:=match b with
 |.len=>match a[0]? with|some t=>JP P t|none=>none
 |.cap=>match a[0]? with
  |some t=>match P.underlying t with
   |some (.slice e)=>match P.info? e with|some c=>some (.qv (TO c.size))|none=>none
   |_=>none
  |none=>none
 |.append=>match a[0]?,a[1]? with|some s,some x=>Ue P s x|_,_=>none
 |.copy=>match a[0]? with
  |some s=>match P.underlying s with
   |some (.slice e)=>match P.info? e with|some c=>some (.q' (T7 c.size))|none=>none
   |_=>none
  |none=>none
 |.min=>some (.pure XI)
 |.max=>some (.pure Xo)
 |.unsafeSliceData=>some (.qv YO)
 |.unsafeString=>match a[0]? with
  |some d=>match P.underlying d with
   |some (.pointer e)=>match P.info? e with|some c=>if c.size=1 then some (.q' (aap e))else none|none=>none
   |_=>none
  |none=>none
 |_=>none
def Ry(P:Program)(t:TypeId):Option (List K):=match P.info? t with
 |some i=>match i.zero with
  |some ae=>qw ae.cells.toList
  |none=>none
 |none=>none
def FL{a:Type}:List (Option a)->Option (List a)
 |[]=>some []
 |some x::l=>match FL l with|some r=>some (x::r)|none=>none
 |none::_=>none
theorem adC{a:Type}:∀{l:List (Option a)} {r:List a},FL l=some r->l=r.map some
 |[],r,h=>by simp[FL]at h;subst h;rfl
 |none::_,_,h=>by simp[FL]at h
 |some x::l,r,h=>by
  simp only[FL]at h
  split at h
  ·rename_i q b
   cases h
   simp[adC b]
  ·cases h
def Uf(P:Program)(t:TypeId)(parts:List (Nat×Operand)):Option oj:=match Ry P t with
 |some zs=>match P.underlying t with
  |some (.struct d)=>match Hi P d.toList with
   |some b=>match FL (parts.map fun p=>b[p.1]?)with
    |some c=>some (.pure (FR zs c))
    |none=>none
   |none=>none
  |some (.array _ e)=>match P.info? e with
   |some a=>some (.pure (FR zs (parts.map fun p=>(p.1*a.size,a.size))))
   |none=>none
  |_=>none
 |none=>none
def Ug(P:Program)(t:TypeId)(len:Nat)(parts:List (Nat×Operand)):Option oj:=match P.underlying t with
 |some (.slice e)=>match P.info? e with
  |some a=>match a.zero with
   |some ae=>if len*a.size<=2^24/\a.size≠0 then match qw ((Array.range (len*a.size)).map ((if len*a.size=0 then #[]else ae.cells)[· %(if len*a.size=0 then #[]else ae.cells).size]!)).toList with
     |some b=>some (.alloc (TD e b (parts.map fun p=>(p.1*a.size,a.size))) (YR len a.size))
     |none=>none
    else none
   |none=>none
  |none=>none
 |_=>none
def Uj(P:Program)(t:TypeId):Option oj:=match P.underlying t with
 |some (.slice e)=>match P.info? e with
  |some a=>match a.zero with
   |some ae=>if ae.cells.size=a.size/\a.size≠0 then match qw ae.cells.toList with
     |some zs=>some (.alloc (Xl e zs a.bytes) (YP a.size))
     |none=>none
    else none
   |none=>none
  |none=>none
 |_=>none
def PS(P:Program)(k:TypeId):Option Nat:=match P.underlying k with
 |some eF=>pY eF
 |none=>none
def Ui(P:Program)(t:TypeId)(ok:Bool):Option oj:=match P.underlying t with
 |some (.map k e)=>match PS P k,P.info? e with
  |some c,some b=>match b.zero with
   |some ae=>match ofValue ae with
    |some a=>some (.qv (Xh c a ok))
    |none=>none
   |none=>none
  |_,_=>none
 |_=>none
def On(P:Program)(t:TypeId):Option oj:=match P.underlying t with
 |some (.map k _)=>match PS P k with
  |some a=>some (.q' (Xm a))
  |none=>none
 |_=>none
def ov(P:Program)(E:iN)(op:Op):Option oj:=match op with
 |.move _=>some (.pure zV)
 |.assign _=>some (.pure zV)
 |.pick _ _ _=>some (.pure LX)
 |.extract _ i=>some (.pure (UJ i))
 |.makeFunc (.func f) first _=>some (.pure (aiQ f first.size))
 |.makeInterface t _=>match P.underlying t with
  |some (.interface _)=>none
  |some _=>some (.pure (WQ t))
  |none=>none
 |.binOp b t _ _ _=>JN P b t
 |.unOp u _ _=>some (.pure (aao u))
 |.load t _=>match P.underlying t,P.info? t with
  |some d,some i=>some (.qv (BN (tM d) i.size))
  |_,_=>none
 |.store t _ _=>match P.info? t with
  |some i=>some (.q' (YZ i.size))
  |none=>none
 |.fieldAddr t _ i=>match P.underlying t with
  |some (.struct g)=>match g[i]? with
   |some f=>match P.info? f.type with
    |some h=>if h.size≠0 then some (.pure (J9 f.offset))else none
    |none=>none
   |none=>none
  |_=>none
 |.field t _ i=>match P.underlying t with
  |some (.struct g)=>match g[i]? with
   |some f=>match P.underlying f.type,P.info? f.type with
    |some d,some h=>some (.pure (UL (tM d) f.offset h.size))
    |_,_=>none
   |none=>none
  |_=>none
 |.indexAddr t _ _=>match P.underlying t with
  |some (.slice e)=>match P.info? e with|some a=>some (.pure (GV a.size))|none=>none
  |some (.array len e)=>match P.info? e with|some a=>some (.pure (WS len a.size))|none=>none
  |_=>none
 |.nilCheck _=>some (.pure LM)
 |.alloc t=>match Ry P t with|some zs=>some (.alloc (Tl t zs) Hk)|none=>none
 |.box t _=>some (.alloc (TB t) Hk)
 |.build t parts=>Uf P t parts.toList
 |.buildSlice t len parts=>Ug P t len parts.toList
 |.makeSlice t _ _=>Uj P t
 |.index t _ _=>match P.underlying t with|some .string=>some (.pure GW)|_=>none
 |.convert s d _=>Uh P s d
 |.slice t _ ee hi none=>Uk P t ee.isSome hi.isSome
 |.lookup t _ _ ok=>Ui P t ok
 |.makeMap _ none=>some (.alloc Xk Xn)
 |.mapUpdate t _ _ _=>On P t
 |.insert t _ _ _=>On P t
 |.call c=>match c.callee with
  |.value _=>some (.q' (Jw E))
  |.builtin b=>JO P b c.argTypes
  |_=>none
 |_=>none
end Go.ch
namespace Go.ch
section
variable {P:Program} {ρ:b4} {o:Oper} {f:oj}
theorem ass{op:BinOp}{t i:TypeId}{x y:Operand}(a:o.op=.binOp op t x y i)(h:JN P op t=some f):rM P ρ o f:=by
 unfold JN at h;split at h
 ·cases h;exact adQ a
 ·cases h;exact adQ a
 ·rename_i e hu;split at h
  ·rename_i j c;split at h
   ·rename_i d;cases h;exact atb a hu c d
   ·cases h
  ·cases h
 ·rename_i hu;cases h;exact atc a hu
 ·rename_i hu;cases h;exact ata a hu
 ·rename_i hu;cases h;exact as_ a hu
 ·rename_i hu;cases h;exact as9 a hu
 ·rename_i k hu;split at h
  ·rename_i b;split at h
   ·rename_i l g;cases h;exact ate a hu b.1 b.2 g
   ·cases h
  ·cases h
 ·cases h
theorem asw{s d:TypeId}{x:Operand}(b:o.op=.convert s d x)(h:Uh P s d=some f):rM P ρ o f:=by
 unfold Uh at h;split at h
 ·rename_i e a hd;split at h
  ·rename_i g;cases h;exact aro b a g hd
  ·cases h
 ·rename_i a hd;cases h;exact ar2 b a hd
 ·rename_i a hd;cases h;exact ar1 b a hd
 ·rename_i t a hd;split at h
  ·rename_i i ah;split at h
   ·rename_i c;cases h;exact aDL b a hd ah c
   ·cases h
  ·cases h
 ·rename_i u a hd;split at h
  ·rename_i j hu;split at h
   ·rename_i c;cases h;exact azk b a hd hu c
   ·cases h
  ·cases h
 ·cases h
theorem asI{t:TypeId}{x:Operand}{ee hi:Option Operand}(b:o.op=.slice t x ee hi none)(h:Uk P t ee.isSome hi.isSome=some f):rM P ρ o f:=by
 unfold Uk at h;split at h
 ·rename_i hu;cases h;exact aCn b hu
 ·rename_i e hu;split at h
  ·rename_i c a;cases h;exact aCo b hu a
  ·cases h
 ·rename_i n e hu;split at h
  ·rename_i c a;cases h;exact aCl b hu a
  ·cases h
 ·cases h
theorem asB{c:Call}{t:TypeId}(b:o.op=.call c)(a:c.callee=.builtin .len)(ah:c.argTypes[0]? =some t)(h:JP P t=some f):rM P ρ o f:=by
 unfold JP at h;split at h
 ·rename_i hu;cases h;exact axT b a ah hu
 ·rename_i hu;cases h;exact axR b a ah hu
 ·rename_i hu;cases h;exact axQ b a ah hu
 ·cases h
theorem asr{c:Call}{s l:TypeId}(j:o.op=.call c)(i:c.callee=.builtin .append)(ab:c.argTypes[0]? =some s)(H:c.argTypes[1]? =some l)(h:Ue P s l=some f):rM P ρ o f:=by
 unfold Ue at h;split at h
 ·rename_i e k hu g;split at h
  ·rename_i n b;split at h
   ·rename_i ae d;split at h
    ·rename_i a;split at h
     ·rename_i zs p;cases h;exact aqQ j i ab H hu b d a.1 a.2 g p
     ·cases h
    ·cases h
   ·cases h
  ·cases h
 ·rename_i e q m hu g;split at h
  ·rename_i n b;split at h
   ·rename_i ae d;split at h
    ·rename_i a;cases h;exact aqS j i ab H hu b d a.1 a.2 g (fun k e=>m k e)
    ·cases h
   ·cases h
  ·cases h
 ·cases h
theorem asv{c:Call}{b:Builtin}(d:o.op=.call c)(a:c.callee=.builtin b)(h:JO P b c.argTypes=some f):rM P ρ o f:=by
 unfold JO at h;split at h
 ·split at h
  ·rename_i t ah;exact asB d a ah h
  ·cases h
 ·split at h
  ·rename_i t ah;split at h
   ·rename_i e hu;split at h
    ·rename_i i g;cases h;exact ary d a ah hu
    ·cases h
   ·cases h
  ·cases h
 ·split at h
  ·rename_i s x ab H;exact asr d a ab H h
  ·cases h
 ·split at h
  ·rename_i s j;split at h
   ·rename_i e hu;split at h
    ·rename_i i g;cases h;exact ar6 d a j hu g
    ·cases h
   ·cases h
  ·cases h
 ·cases h;exact ayC d a
 ·cases h;exact aym d a
 ·cases h;exact aCm d a
 ·split at h
  ·rename_i l k;split at h
   ·rename_i e hu;split at h
    ·rename_i i g;split at h
     ·rename_i H;cases h;exact aEI d a k hu g H
     ·cases h
    ·cases h
   ·cases h
  ·cases h
 ·cases h
theorem anf{t:TypeId}{zs:List K}(h:Ry P t=some zs):∃i ae,P.info? t=some i/\i.zero=some ae/\qw ae.cells.toList=some zs:=by
 unfold Ry at h;split at h
 ·rename_i i hi;split at h
  ·rename_i ae a;exact⟨i,ae,hi,a,h⟩
  ·cases h
 ·cases h
theorem asu{t:TypeId}{parts:Array (Nat×Operand)}(c:o.op=.build t parts)(h:Uf P t parts.toList=some f):rM P ρ o f:=by
 unfold Uf at h;split at h
 ·rename_i zs a;obtain⟨i,ae,hi,b,a⟩:=anf a;split at h
  ·rename_i m hu;split at h
   ·rename_i j d;split at h
    ·rename_i l ag;cases h;exact arf c hi b a hu d (adC ag)
    ·cases h
   ·cases h
  ·rename_i n e hu;split at h
   ·rename_i k g;cases h;exact ard c hi b a hu g rfl
   ·cases h
  ·cases h
 ·cases h
theorem ast{t:TypeId}{len:Nat}{parts:Array (Nat×Operand)}(g:o.op=.buildSlice t len parts)(h:Ug P t len parts.toList=some f):rM P ρ o f:=by
 unfold Ug at h;split at h
 ·rename_i e hu;split at h
  ·rename_i j c;split at h
   ·rename_i ae d;split at h
    ·rename_i a;split at h
     ·rename_i i b;cases h;exact are g hu c d a.1 a.2 b rfl
     ·cases h
    ·cases h
   ·cases h
  ·cases h
 ·cases h
theorem asD{t:TypeId}{x y:Operand}(d:o.op=.makeSlice t x y)(h:Uj P t=some f):rM P ρ o f:=by
 unfold Uj at h;split at h
 ·rename_i e hu;split at h
  ·rename_i i b;split at h
   ·rename_i ae c;split at h
    ·rename_i a;split at h
     ·rename_i zs g;cases h;exact ayj d hu b c g a.1 a.2
     ·cases h
    ·cases h
   ·cases h
  ·cases h
 ·cases h
theorem ail{k:TypeId}{a:Nat}(h:PS P k=some a):∃eF,P.underlying k=some eF/\pY eF=some a:=by
 unfold PS at h;split at h
 ·rename_i eF b;exact⟨eF,b,h⟩
 ·cases h
theorem asC{t:TypeId}{x y:Operand}{ok:Bool}(d:o.op=.lookup t x y ok)(h:Ui P t ok=some f):rM P ρ o f:=by
 unfold Ui at h;split at h
 ·rename_i k e hu;split at h
  ·rename_i l j ah b;obtain⟨eF,a,ah⟩:=ail ah;split at h
   ·rename_i ae c;split at h
    ·rename_i i g;cases h;exact ax6 d hu a ah b c g
    ·cases h
   ·cases h
  ·cases h
 ·cases h
theorem aeL{t:TypeId}{x y ae:Operand}(b:o.op=.mapUpdate t x y ae∨o.op=.insert t x y ae)(h:On P t=some f):rM P ρ o f:=by
 unfold On at h;split at h
 ·rename_i k e hu;split at h
  ·rename_i c ah;obtain⟨eF,a,ah⟩:=ail ah;cases h;exact ayk b hu a ah
  ·cases h
 ·cases h
theorem asF{E:iN}(r:rB P ρ E)(h:ov P E o.op=some f):rM P ρ o f:=by
 generalize a:o.op=op at h;unfold ov at h;split at h
 ·cases h;exact akc (.inl a)
 ·cases h;exact akc (.inr a)
 ·cases h;exact aAw a
 ·cases h;exact ats a
 ·cases h;exact ayh a
 ·split at h
  ·cases h
  ·rename_i d hd hu;cases h;exact aw1 a hu (fun s e=>hd s e)
  ·cases h
 ·exact ass a h
 ·cases h;exact aEE a
 ·split at h
  ·rename_i d i hu hi;cases h;exact aiI a hu hi
  ·cases h
 ·split at h
  ·rename_i i hi;cases h;exact aDb a hi
  ·cases h
 ·split at h
  ·rename_i t hu;split at h
   ·rename_i w l;split at h
    ·rename_i u q;split at h
     ·rename_i k;cases h;exact atw a hu l q k
     ·cases h
    ·cases h
   ·cases h
  ·cases h
 ·split at h
  ·rename_i t hu;split at h
   ·rename_i w l;split at h
    ·rename_i d u hd hi;cases h;exact aty a hu l hd hi
    ·cases h
   ·cases h
  ·cases h
 ·split at h
  ·rename_i e hu;split at h
   ·rename_i p j;cases h;exact aw2 a hu j
   ·cases h
  ·rename_i n e hu;split at h
   ·rename_i p j;cases h;exact aw3 a hu j
   ·cases h
  ·cases h
 ·cases h;exact ay4 a
 ·split at h
  ·rename_i zs m;obtain⟨i,ae,hi,k,m⟩:=anf m;cases h;exact aqO a hi k m
  ·cases h
 ·cases h;exact ara a
 ·exact asu a h
 ·exact ast a h
 ·exact asD a h
 ·split at h
  ·rename_i hu;cases h;exact aw6 a hu
  ·cases h
 ·exact asw a h
 ·exact asI a h
 ·exact asC a h
 ·cases h;exact ayi a
 ·exact aeL (.inl a) h
 ·exact aeL (.inr a) h
 ·rename_i c;split at h
  ·rename_i x g;cases h;exact arw r a g
  ·rename_i b g;exact asv a g h
  ·cases h
 ·cases h
end
inductive v_ where
 |oN (f:oj)
 |call
def v_.Rg(E:iN):v_->oj
 |.oN f=>f
 |.call=>.q' (Jw E)
def Dr:iN:=⟨fun _ _ _=>none,fun _ _ _=>none⟩
def qs:Op->Bool
 |.call c=>match c.callee with|.value _=>true|_=>false
 |_=>false
def qe(P:Program)(op:Op):Option v_:=bif qs op then some .call else match ov P Dr op with
 |some f=>some (.oN f)
 |none=>none
theorem asE{P:Program}{op:Op}{f:oj}(a:qs op=false)(E b:iN):ov P E op=ov P b op:=by
 unfold ov;split<;>first|rfl|(rename_i c;split<;>first|rfl|(rename_i x d;simp[qs,d]at a))
theorem asA{P:Program}{op:Op}{k:v_}(h:qe P op=some k)(E:iN):ov P E op=some (k.Rg E):=by
 unfold qe at h;cases a:qs op with
 |true=>
  rw[a]at h;simp only[er,cb]at h;subst h;cases op<;>simp only[qs]at a<;>try cases a
  rename_i c;split at a
  ·rename_i x b;simp[ov,b,v_.Rg]
  ·cases a
 |false=>
  rw[a]at h;simp only[iK]at h;split at h
  ·rename_i f d;cases h;rw[asE (f:=f) a E Dr];exact d
  ·cases h
structure hH where
 guard:Option ((S->K)×Bool)
 dst:Option Nat
 aK:List (S->K)
 k:v_
def hH.EO(E:iN)(c:hH):xl:=⟨c.guard,c.dst,c.aK,c.k.Rg E⟩
def zf(E:iN):v_->List K->ay->Option (K×ay)
 |.oN f,s,h=>xs f s h
 |.call,s,h=>Jw E s h
theorem aq5(E:iN)(k:v_):zf E k=xs (k.Rg E):=by
 cases k<;>rfl
def nG(E:iN):List hH->S->ay->Option (S×ay)
 |[],s,h=>some (s,h)
 |o::l,s,h=>
  match (match o.guard with|none=>some true|some (x,b)=>xE (x s) b)with
  |some true=>match zf E o.k (mm o.aK s) h with
   |some (v,a)=>nG E l (oL o.dst v s) a
   |none=>none
  |some false=>nG E l (oL o.dst pz s) h
  |none=>none
theorem alY(E:iN):∀(l:List hH) (s:S) (h:ay),nG E l s h=B3 (l.map (hH.EO E)) s h
 |[],_,_=>rfl
 |o::l,s,h=>by
  have a:=alY E l
  simp only[nG,oa,B3,hH.EO,aq5,a]
  rfl
def L_(E:iN)(rs:List hH):jH:=fun x=>match nG E rs x.s x.h with
 |some (s,h)=>some (.hD,⟨s,h,x.gA⟩)
 |none=>none
theorem aBf(E:iN)(rs:List hH):L_ E rs=QR (rs.map (hH.EO E)):=by
 funext x;simp only[L_,QR,alY];rfl
structure pr where
 c:hH
 slots:List Nat
 pre:Nat
def pr.yt(E:iN)(d:pr):fx:=⟨d.c.EO E,d.slots,d.pre⟩
inductive nL where
 |skip
 |exit (id:Nat)
 |ret
 |seq (a b:nL)
 |cond (t:S->K) (a b:nL)
 |block (id:Nat) (a:nL)
 |loop (a:nL)
 |region (rs:List hH)
 |Dk (rs:List pr) (bW:Nat)
 |range (key av:Nat) (fE:S->K)
 |fail
def sv(E:iN)(n:Nat)(r:Option Nat):nL->jH
 |.skip=>Mk
 |.exit id=>UH id
 |.ret=>Yn
 |.seq a b=>Mi (sv E n r a) (sv E n r b)
 |.cond t a b=>JJ t (sv E n r a) (sv E n r b)
 |.block id a=>Jk id (sv E n r a)
 |.loop a=>BK (sv E n r a) n
 |.region rs=>L_ E rs
 |.Dk rs d=>JT (rs.map (pr.yt E)) d
 |.range key av c=>match r with
  |none=>L6 E key av c
  |some bo=>Yd E bo key av c
 |.fail=>UK
def Kd(av:Nat)(ops:Array Oper):Option (Nat×Bool)->Option (Option ((S->K)×Bool))
 |none=>some none
 |some (j,a)=>match ops[j]? with
  |some o=>match o.dst with
   |some t=>if t<av then some (some (g t,a))else none
   |none=>none
  |none=>none
def JW(av:Nat):Option Nat->Bool
 |some t=>decide (t<av)
 |none=>true
def zn(P:Program)(av:Nat)(ops:Array Oper)(o:Oper):Option hH:=bif JW av o.dst then
 match Kd av ops o.guard,BX av P.globals.size o.op.operands.toList,qe P o.op with
 |some dQ,some aK,some k=>some ⟨dQ,o.dst,aK,k⟩
 |_,_,_=>none
 else none
def sX(P:Program)(av:Nat)(ops:Array Oper):List Oper->Option (List hH)
 |[]=>some []
 |o::l=>match zn P av ops o,sX P av ops l with
  |some x,some r=>some (x::r)
  |_,_=>none
def OM(ops:Array Oper):Option (Nat×Bool)->List Nat
 |none=>[]
 |some (j,_)=>match ops[j]? with
  |some o=>match o.dst with
   |some t=>[t]
   |none=>[]
  |none=>[]
def Ew:List Oper->List Nat->List Nat
 |[],a=>a
 |o::l,a=>Ew l (a++[o.after.toList.foldl (fun r e=>bif Region.binds .any e then r|||(1<<<e.on)|||a.getD e.on 0 else r) 0])
def tP(ops:Array Oper):List Oper->List hH->List Nat->List pr
 |o::l,c::m,p::q=>⟨c,OM ops o.guard++B7 o.op.operands.toList,p⟩::tP ops l m q
 |_,_,_=>[]
def ah8:v_->Bool
 |.oN (.alloc _ _)=>true
 |_=>false
def Om(P:Program)(av:Nat)(ops:Array Oper):Option nL:=match sX P av ops ops.toList with
 |some cs=>match tP ops ops.toList cs (Ew ops.toList [])with
  |ds=>bif Af av ops.toList (ds.map (pr.yt Dr))&&Nat.beq ds.length cs.length then some (.Dk ds (cs.filter fun c=>ah8 c.k).length)else none
 |none=>none
def hk:Code->List (Array Tmp×Code×Code)
 |.seq a b=>hk a++hk b
 |.cond _ a b=>hk a++hk b
 |.block _ a=>hk a
 |.loop a=>hk a
 |.rangeFunc _ c a b=>(c,a,b)::hk b
 |_=>[]
def jv(P:Program)(av:Nat):Option Nat->Code->Option nL
 |_,.skip=>some .skip
 |_,.label _=>some .skip
 |_,.exit id=>some (.exit id)
 |_,.ret=>some .ret
 |k,.seq a b=>match jv P av k a,jv P av (k.map (· +(hk a).length)) b with
  |some x,some y=>some (.seq x y)
  |_,_=>none
 |k,.cond t a b=>match rm av P.globals.size t,jv P av k a,jv P av (k.map (· +(hk a).length)) b with
  |some t,some x,some y=>some (.cond t x y)
  |_,_,_=>none
 |k,.block id a=>match jv P av k a with|some x=>some (.block id x)|none=>none
 |k,.loop a=>match jv P av k a with|some x=>some (.loop x)|none=>none
 |_,.region _ ops false=>match sX P av ops ops.toList with
  |some cs=>some (.region cs)
  |none=>some .fail
 |_,.region _ ops true=>match Om P av ops with
  |some c=>some c
  |none=>some .fail
 |some key,.rangeFunc f _ _ _=>match rm av P.globals.size f with
  |some d=>some (.range key av d)
  |none=>none
 |_,_=>some .fail
section
variable {P:Program} {ρ:b4} {E:iN} {av:Nat}
theorem aeM(i:rB P ρ E){ops:Array Oper}{o:Oper}{c:hH}(h:zn P av ops o=some c):NO P ρ av ops o (c.EO E):=by
 unfold zn at h;cases hd:JW av o.dst with
 |false=>rw[hd]at h;simp at h
 |true=>
  rw[hd]at h;simp only[er]at h;split at h
  ·rename_i dQ aK k a g b;cases h;refine⟨asF i (asA b E),akM g,rfl,fun t ah=>?_,fun cl l=>?_,?_⟩
   ·rw[ah]at hd;simpa[JW]using hd
   ·rw[l]at b;simp[qe,qs,ov]at b
   ·cases d:o.guard with
    |none=>rw[d]at a;simp[Kd]at a;subst a;rfl
    |some f=>
     obtain⟨j,m⟩:=f;rw[d]at a;simp only[Kd]at a;split at a
     ·rename_i n e;split at a
      ·rename_i t ah;split at a
       ·rename_i aq;cases a;exact⟨t,by simp[e,ah],aq,rfl⟩
       ·cases a
      ·cases a
     ·cases a
  ·cases h
theorem aeO(a:rB P ρ E){ops:Array Oper}:∀{l:List Oper} {cs:List hH},sX P av ops l=some cs->NP P ρ av ops l (cs.map (hH.EO E))
 |[],cs,h=>by simp[sX]at h;subst h;trivial
 |o::l,cs,h=>by
  simp only[sX]at h
  split at h
  ·rename_i x r b c
   cases h
   exact⟨aeM a b,aeO a c⟩
  ·cases h
theorem asH{ops:Array Oper}{o:Oper}{c:hH}(h:zn P av ops o=some c){slots:List Nat}(e:∀t∈OM ops o.guard++B7 o.op.operands.toList,t∈slots): (∀x∈c.aK,Fa slots x)/\∀x f,c.guard=some (x,f)->Fa slots x:=by
 unfold zn at h;cases hd:JW av o.dst with
 |false=>rw[hd]at h;simp at h
 |true=>
  rw[hd]at h;simp only[er]at h;split at h
  ·rename_i dQ aK k a l n;cases h;refine⟨akL l fun t ah=>e t (List.mem_append_right _ ah),fun x f d=>?_⟩;cases b:o.guard with
   |none=>rw[b]at a;simp[Kd]at a;subst a;cases d
   |some i=>
    obtain⟨j,w⟩:=i;rw[b]at a;simp only[Kd]at a;split at a
    ·rename_i q g;split at a
     ·rename_i t ah;split at a
      ·cases a;simp only[cb,g9]at d;obtain⟨rfl,rfl⟩:=d;intro s p m;exact m t (e t (RO _ (by simp[OM,b,g,ah])))
      ·cases a
     ·cases a
    ·cases a
  ·cases h
theorem ad1(d:rB P ρ E){ops:Array Oper}:∀{l:List Oper} {cs:List hH} {a:List Nat},sX P av ops l=some cs->(tP ops l cs a).length=cs.length->
  AB P ρ av ops l ((tP ops l cs a).map (pr.yt E))
 |[],cs,a,h,_=>by simp[sX]at h;subst h;simp[tP,AB]
 |o::l,cs,a,h,b=>by
  simp only[sX]at h
  split at h
  ·rename_i x r c e
   cases h
   cases a with
   |nil=>simp[tP]at b
   |cons p q=>
    simp only[tP,oa]
    simp only[tP,mP,Nat.add_right_cancel_iff]at b
    have EG:=asH c (slots:=OM ops o.guard++B7 o.op.operands.toList) fun _ h=>h
    exact⟨⟨aeM d c,EG.1,EG.2⟩,ad1 d e b⟩
  ·cases h
theorem aC6{ops:List Oper}{ds:List pr}(E a:iN):Af av ops (ds.map (pr.yt E))=Af av ops (ds.map (pr.yt a)):=by
 unfold Af;simp only[pn];congr 1;funext i;cases ops[i]? with
 |none=>rfl
 |some o=>
  cases hi:ds[i]? with
  |none=>rfl
  |some d=>
   simp only[ob,pr.yt,hH.EO];congr 1
   ·congr 1;congr 1;congr 1;congr 1;funext j;congr 1;congr 1;funext e;cases ds[e.on]? <;>rfl
   ·congr 1;funext j;cases ds[j]? <;>rfl
theorem asx(b:P.follows .mixedOrders=true)(d:rB P ρ E){B:bl->lr->Prop}{id n:Nat}{r:Option Nat}{ops:Array Oper}{c:nL}(h:Om P av ops=some c):mc P ρ av B (.region id ops true) (sv E n r c):=by
 unfold Om at h;split at h
 ·rename_i cs e;simp only at h;cases a:(Af av ops.toList ((tP ops ops.toList cs (Ew ops.toList [])).map (pr.yt Dr))&&Nat.beq (tP ops ops.toList cs (Ew ops.toList [])).length cs.length)with
  |false=>rw[a]at h;simp at h
  |true=>rw[a]at h;simp only[er,cb]at h;subst h;simp only[dz]at a;simp only[sv];exact aB_ b (ad1 d e (gV a.2)) (by rw[aC6 E Dr];exact a.1)
 ·cases h
def CV(ρ:b4)(f:FuncId)(k:Option Nat)(rs:List (Array Tmp×Code×Code)):Prop:=∀key,k=some key->∀i x,rs[i]? =some x->∃l,ρ.nC (key+i)=some l/\l.fn=f/\l.params=x.1/\l.assign=x.2.1/\l.body=x.2.2
theorem CV.left{f:FuncId}{k:Option Nat}{a b:List (Array Tmp×Code×Code)}(h:CV ρ f k (a++b)):CV ρ f k a:=fun key d i x c=>
 h key d i x (by rw[w0 (j2.1 c).1];exact c)
theorem CV.right{f:FuncId}{k:Option Nat}{a b:List (Array Tmp×Code×Code)}(h:CV ρ f k (a++b)):CV ρ f (k.map (· +a.length)) b:=fun key c i x d=>by
 simp only[ig]at c
 obtain⟨e,rfl,rfl⟩:=c
 obtain⟨l,H,I⟩:=h e rfl (a.length+i) x (by rw[yM z];simpa using d)
 exact⟨l,by rw[kr];exact H,I⟩
theorem xB(j:P.follows .mixedOrders=true)(g:rB P ρ E){n:Nat}{f:FuncId}{r:Option Nat}:∀(code:Code) (k:Option Nat) (c:nL),CV ρ f k (hk code)->jv P av k code=some c->mc P ρ av (rz f r) code (sv E n r c)
 |.skip,k,c,e,h=>by simp only[jv,cb]at h;subst h;exact aCh
 |.label l,k,c,e,h=>by simp only[jv,cb]at h;subst h;exact aCa
 |.exit id,k,c,e,h=>by simp only[jv,cb]at h;subst h;exact aB'
 |.ret,k,c,e,h=>by simp only[jv,cb]at h;subst h;exact aCf
 |.seq a b,k,c,e,h=>by
  simp only[jv]at h
  split at h
  ·rename_i x y i m
   cases h
   simp only[hk]at e
   exact aCg (rz.G_ f r) (xB j g a k x e.left i) (xB j g b _ y e.right m)
  ·cases h
 |.cond t a b,k,c,e,h=>by
  simp only[jv]at h
  split at h
  ·rename_i A x y ah i m
   cases h
   simp only[hk]at e
   exact aB9 (Qu ah) (xB j g a k x e.left i) (xB j g b _ y e.right m)
  ·cases h
 |.block id a,k,c,e,h=>by
  simp only[jv]at h
  split at h
  ·rename_i x i
   cases h
   exact aB8 (xB j g a k x e i)
  ·cases h
 |.loop a,k,c,e,h=>by
  simp only[jv]at h
  split at h
  ·rename_i x i
   cases h
   exact aCb (rz.G_ f r) (xB j g a k x e i) n
  ·cases h
 |.region id ops d,k,c,e,h=>by
  cases d with
  |false=>
   simp only[jv]at h
   split at h
   ·rename_i cs w
    cases h
    simp only[sv,aBf]
    exact aCe (aeO g w)
   ·cases h;exact Hv
  |true=>
   simp only[jv]at h
   split at h
   ·rename_i D z
    cases h
    exact asx j g z
   ·cases h;exact Hv
 |.rangeFunc F u a b,k,c,e,h=>by
  cases k with
  |none=>simp only[jv,cb]at h;subst h;exact Hv
  |some key=>
   simp only[jv]at h
   split at h
   ·rename_i C s
    cases h
    obtain⟨l,H,I,p,o,q⟩:=e key rfl 0 (u,a,b) rfl
    subst I
    cases r with
    |none=>exact aCc g H p o q (Qu s)
    |some bo=>exact aCd g H p o q (Qu s)
   ·cases h
 |.scope a,k,c,e,h=>by simp only[jv,cb]at h;subst h;exact Hv
 |.goto l,k,c,e,h=>by simp only[jv,cb]at h;subst h;exact Hv
 |.refuse B,k,c,e,h=>by simp only[jv,cb]at h;subst h;exact Hv
end
end Go.ch
