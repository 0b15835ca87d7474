/- ItemLatest, one part of the proof. -/
import Derived.Test.YtdioggbficfibaaGreatDoorP01
set_option linter.all false
set_option maxRecDepth 100000
set_option maxHeartbeats 16000000
namespace Go.cv
section
variable {P:Program} {ρ:cd}
def BV(x:O)(y:Nat):Option Nat:=match x with
 |.int _ (.ofNat m)=>bif Nat.ble m y then some m else none
 |_=>none
variable{c:Value}{w:World}
theorem Jt{σ:b6}{x:O}{y m:Nat}{code:BoundsCode}(h:BV x y=some m)(b:aN ρ σ x=some c):m<=y/\(Instr.sliceBound c y code).run P w=.ok m w:=by
 unfold BV at h;split at h
 ·rename_i k n;cases A:Nat.ble n y with
  |false=>simp[A]at h
  |true=>have a:=hH A;simp[A]at h;subst h;obtain rfl:=oH b;refine⟨a,?_⟩;simp[Instr.sliceBound,asIntOf,a]
 cases h
def qm(b a:Bool)(len cap:Nat):List O->Option (Nat×Nat)
 |[]=>bif b||a then none else some (0,len)
 |[x]=>bif b then(bif a then none else match BV x len with|some l=>some (l,len)|none=>none)
  else(bif a then match BV x cap with|some h=>some (0,h)|none=>none else none)
 |[x,y]=>bif b&&a then match BV y cap with
   |some h=>match BV x h with|some l=>some (l,h)|none=>none
   |none=>none
  else none
 |_=>none
variable{eh hi:Option Operand}{cap:Nat}
theorem SB{σ:b6}{isSlice:Bool}{a:Array Value}{len g l h:Nat}{vs:List O}(A:qm eh.isSome hi.isSome len g vs=some (l,h))(q:g<=cap) (e:bY ρ σ vs=some ((eh.toArray++hi.toArray).toList.map (ez a))):l<=h/\(h<=g∨h=len)/\(Instr.sliceBounds isSlice len cap (eh.map (ez a)) (hi.map (ez a)) none).run P w=.ok (l,h,cap) w:=by
 have Ib:∀{x:O} {m:Nat},BV x g=some m->BV x cap=some m:=fun {x m} f=>by
  unfold BV at f⊢;split at f
  ·rename_i k n;cases o:Nat.ble n g with
   |false=>simp[o]at f
   |true=>have:=hH o;simp[o]at f;subst f;rw[Wx (cO this q)];rfl
  cases f
 cases eh with
 |none=>
  cases hi with
  |none=>
   cases vs with
   |nil=>simp[qm]at A;obtain⟨rfl,rfl⟩:=A;exact⟨dx _,.inr rfl,by simp[Instr.sliceBounds]⟩
   |cons v vs=>cases vs with
    |nil=>simp[qm]at A
    |cons u vs=>cases vs<;>simp[qm]at A
  |some hi=>
   cases vs with
   |nil=>simp[qm]at A
   |cons v vs=>cases vs with
    |nil=>
     simp only[qm,afp,afq,jt,eP]at A;split at A;rename_i m b;cases A;simp at e;obtain⟨c,H,I⟩:=iT e;simp at I;subst I;obtain⟨i,_⟩:=Jt (P:=P) (w:=w) (code:=.sliceAcap) b H;obtain⟨_,j⟩:=Jt (P:=P) (w:=w) (code:=if isSlice then .sliceAcap else .sliceAlen) (Ib b) H;exact⟨dx _,.inl i,by simp[Instr.sliceBounds,j]⟩
     ·cases A
    |cons u vs=>cases vs<;>simp[qm]at A
 |some eh=>
  cases hi with
  |none=>
   cases vs with
   |nil=>simp[qm]at A
   |cons v vs=>cases vs with
    |nil=>
     simp only[qm,afp,afq,jt,eP]at A;split at A;rename_i m b;cases A;simp at e;obtain⟨c,H,I⟩:=iT e;simp at I;subst I;obtain⟨i,j⟩:=Jt (P:=P) (w:=w) (code:=.sliceB) b H;exact⟨i,.inr rfl,by simp[Instr.sliceBounds,j]⟩
     ·cases A
    |cons u vs=>cases vs<;>simp[qm]at A
  |some hi=>
   cases vs with
   |nil=>simp[qm]at A
   |cons v vs=>cases vs with
    |nil=>simp[qm]at A
    |cons u vs=>cases vs with
     |nil=>
      simp only[qm,afq,Bool.and_self,eP]at A;split at A;rename_i m b;split at A;rename_i n r;cases A;simp at e;obtain⟨c,d,H,I,p⟩:=lz e;simp at p;obtain⟨rfl,rfl⟩:=p;obtain⟨i,_⟩:=Jt (P:=P) (w:=w) (code:=.sliceAcap) b I;obtain⟨_,j⟩:=Jt (P:=P) (w:=w) (code:=if isSlice then .sliceAcap else .sliceAlen) (Ib b) I;obtain⟨s,t⟩:=Jt (P:=P) (w:=w) (code:=.sliceB) r H;exact⟨s,.inl i,by simp[Instr.sliceBounds,j,t]⟩;cases A
      ·cases A
     |cons af vs=>simp[qm]at A
def adR(a b:Bool):List O->Option O
 |.str s::r=>match qm a b s.length s.length r with
  |some (l,h)=>QC ((s.take h).drop l) fun q=>some (.str q)
  |none=>none
 |_=>none
theorem aFG{s:List Nat}(h:kI s)(a b:Nat):kI ((s.take b).drop a):=by
 unfold kI at*;rw[h6]at*;intro x c;exact h x (Rq (as5 c))
theorem aip(s:List Nat)(a b:Nat):(eU s).extract a b=eU ((s.take b).drop a):=by
 apply Ly;simp[eU,asO,List.map_drop,Wu,List.drop_take]
variable{o:Oper}{t:TypeId}
theorem aIQ{x:Operand}(h:o.op=.slice t x eh hi none)(hu:P.underlying t=some .string):mA P ρ o (adR eh.isSome hi.isSome):=by
 intro σ s a w v an f J;unfold adR at J;split at J
 ·rename_i str r;split at J
  ·rename_i l d A;rw[ad5]at J;cases J;obtain⟨c,k,e,b,aO⟩:=qo f;obtain⟨ok,rfl⟩:=tJ e;have j:fW o a=ez a x::((eh.toArray++hi.toArray).toList.map (ez a)):=by simp[fW,h,Op.operands]
   rw[j]at aO;simp only[p7]at aO;obtain⟨aj,g⟩:=aO;rw[←g]at b;obtain⟨m,n,i⟩:=SB (P:=P) (w:=w) (isSlice:=false) (len:=str.length) (cap:=str.length) A (aZ _) b;refine⟨_,aiR (aFG ok l d),?_⟩;have dG:(Instr.sliceAt t (.string (eU str)) (eh.map (ez a)) (hi.map (ez a)) none).run P w=.ok (.string (eU ((str.take d).drop l))) w:=by simp only[Instr.sliceAt,eZ,hR hu,eW,Instr.slice,Ng,i,afp,qM,pz,fJ,aip]
   exact aoJ
  cases J
 cases J
def Jw(h:aw)(b off esz:Nat)(cap:Option Nat):Option (Nat×Bool):=match cap with
 |some c=>some (c,true)
 |none=>match h.cR b with
  |some (.cells _ vs a _)=>some (Nat.div (vs.length-off) esz,a)
  |_=>none
theorem YG{σ:b6}{h:aw}{w:World}{b off esz:Nat}{cap:Option Nat}{c:Nat}{sF:Bool}{p:nB}(e:cZ ρ σ h w)(ag:σ b=some p)(a:Jw h b off esz cap=some (c,sF)):c<=jv p off esz cap/\(sF=true->c=jv p off esz cap):=by
 cases cap with
 |some j=>simp[Jw]at a;obtain⟨rfl,rfl⟩:=a;exact⟨aZ _,fun _=>rfl⟩
 |none=>
  simp only[Jw]at a;split at a;rename_i elem vs k wr A;simp at a;obtain⟨rfl,rfl⟩:=a;obtain⟨f,arr,bb,cs,g,H,I,i,d,_⟩:=e.cells A;obtain rfl:p=f:=gQ (ag.symm.trans g);refine⟨as' z,fun ai=>?_⟩;show(vs.length-off)/esz=(p.tot-off)/esz;rw[(d ai).1];cases a
def ad6(l:Nat):Option Nat->Option Nat
 |some k=>some (k-l)
 |none=>none
def adT(esz:Nat)(a f:Bool):List O->aw->Option O
 |.slice b off len e cap::r,h=>bif Nat.beq e esz&&Nat.blt 0 esz then match Jw h b off esz cap with
  |some (c,sF)=>match qm a f len c r with
   |some (l,d)=>bif Nat.ble d c then
     (bif Nat.blt l c||Nat.beq l 0 then
      vW (off+l*esz) fun g=>vW (d-l) fun n'=>some (.slice b g n' esz (ad6 l cap))
     else bif sF then some (.slice b off 0 esz (some 0))else bif cap.isNone then some (.lA b off l esz)else none)
    else none
   |none=>none
  |none=>none
  else none
 |.dH::r,_=>match qm a f 0 0 r with
  |some (0,0)=>some .dH
  |_=>none
 |_,_=>none
variable{e:TypeId}
theorem aIR{x:Operand}(h:o.op=.slice t x eh hi none){d:TypeInfo}(hu:P.underlying t=some (.slice e))(E:P.info? e=some d):BH P ρ o (adT d.size eh.isSome hi.isSome):=by
 intro σ s V a w v an m M J;have T:fW o a=ez a x::((eh.toArray++hi.toArray).toList.map (ez a)):=by simp[fW,h,Op.operands]
 rw[T]at m;unfold adT at J;split at J
 ·rename_i b off len N cap r;cases f:(Nat.beq N d.size&&Nat.blt 0 d.size)with
  |false=>rw[f]at J;simp at J
  |true=>
   rw[f]at J;simp only[eP]at J;simp only[dQ]at f;have R:=gx f.1;subst R;have W:0<d.size:=by simpa using f.2
   split at J
   ·rename_i c sF F;split at J
    ·rename_i l I A;cases z:Nat.ble I c with
     |false=>rw[z]at J;simp at J
     |true=>
      have U:=hH z;rw[z]at J;simp only[eP]at J;obtain⟨c1,H,j,g,aO⟩:=qo m;simp only[p7]at aO;obtain⟨aj,n⟩:=aO;obtain⟨p,ag,rfl⟩:=Ad j;obtain⟨b4,dF⟩:=YG M ag F;rw[←n]at g;obtain⟨L,Q,B⟩:=SB (P:=P) (w:=w) (isSlice:=true) (len:=len) (cap:=jv p off d.size cap) A b4 g;have dG:(Instr.sliceAt t (.slice (some ⟨p.aY,p.del+off,none⟩) len (jv p off d.size cap)) (eh.map (ez a)) (hi.map (ez a)) none).run P w=
        .ok (.slice (if jv p off d.size cap=l then some ⟨p.aY,p.del+off,none⟩else some ⟨p.aY,p.del+off+l*d.size,none⟩) (I-l) (jv p off d.size cap-l)) w:=by
       simp only[Instr.sliceAt,eZ,hR hu,eW,Instr.slice,B,p3 E,fJ,n6,zW]
      have C:∀(y:O) (u:Value),aN ρ σ y=some u->u=(.slice (if jv p off d.size cap=l then some ⟨p.aY,p.del+off,none⟩else some ⟨p.aY,p.del+off+l*d.size,none⟩) (I-l) (jv p off d.size cap-l))->
        ∃c,aN ρ σ y=some c/\(execOp (ez a) o).run P w=.ok (.value c) w:=fun y u K G=>by
       refine⟨u,K,?_⟩;rw[G];simp only[execOp,h,aj,eZ,afr,dG,eW,fJ]
      cases ai:(Nat.blt l c||Nat.beq l 0)with
      |true=>
       rw[ai]at J;simp only[eP,Ba,cq]at J;subst J;have i:jv p off d.size cap≠l∨l=0:=by
        simp only[Q4]at ai;rcases ai with ai|ai
        ·left;have:l<c:=by simpa using ai
         omega
        right;exact gx ai
       have S:jv p (off+l*d.size) d.size (ad6 l cap)=jv p off d.size cap-l:=by
        cases cap with
        |some k=>rfl
        |none=>simp only[jv,ad6];rw[←Nat.sub_sub,II l,Nat.sub_mul_div]
       refine C _ (.slice (some ⟨p.aY,p.del+(off+l*d.size),none⟩) (I-l) (jv p off d.size cap-l)) (by simp only[aN,ag,n6,S]) ?_;rcases i with i|i
       rw[bs i,kN]
       ·subst i;simp
      |false=>
       rw[ai]at J;simp only[jt]at J;cases sF with
       |false=>
        simp only[jt]at J;cases cap with
        |some _=>simp at J
        |none=>
         simp at J;subst J;have D:I-l=0:=by
          rw[Q3]at ai;have:¬l<c:=fun au=>by
            have q:Nat.blt l c=true:=by simpa using au
            rw[q]at ai;cases ai.1
          omega
         refine C _ _ (by simp only[aN,ag,n6];rfl) ?_;rw[D];split;simp
         ·simp[kN]
       |true=>
        simp at J;subst J;have D:l=jv p off d.size cap:=by
         rw[Q3]at ai;have:¬l<c:=fun au=>by
           have q:Nat.blt l c=true:=by simpa using au
           rw[q]at ai;cases ai.1
         have:=dF rfl;omega
        refine C _ (.slice (some ⟨p.aY,p.del+off,none⟩) 0 0) (by simp[aN,ag,jv]) ?_;rw[co D.symm];congr 1<;>omega
    cases J
   cases J
 ·rename_i r;split at J
  ·rename_i A;cases J;obtain⟨c1,H,j,g,aO⟩:=qo m;simp only[p7]at aO;obtain⟨aj,n⟩:=aO;simp only[aN,cq]at j;subst j;rw[←n]at g;obtain⟨L,Q,B⟩:=SB (P:=P) (w:=w) (isSlice:=true) (len:=0) (cap:=0) A (aZ _) g;refine⟨_,rfl,?_⟩;have dG:(Instr.sliceAt t (.slice none 0 0) (eh.map (ez a)) (hi.map (ez a)) none).run P w=.ok (.slice none 0 0) w:=by simp only[Instr.sliceAt,eZ,hR hu,eW,Instr.slice,B,p3 E,fJ,afr];simp
   exact aoJ
  cases J
 cases J
end
section
variable {P:Program} {ρ:cd}
theorem cZ.rename{σ:b6}{h:aw}{w:World}(r:cZ ρ σ h w){b:Nat}{p q:nB}{i x:eC}(A:h.cR b=some i)(ag:σ b=some p)(K:b<eB)(L:h.nx<eB){o:Obj}(au:p.aY<w.heap.size)(s:q.aY=p.aY) (M:kn ρ (dZ σ h.nx q) q (some o) x):cZ ρ (dZ σ h.nx q) ((h.c' b none).add x) (gO w p.aY o)/\jF σ h w (dZ σ h.nx q) ((h.c' b none).add x) (gO w p.aY o):=by
 have G:=r.j9 h.nx (aZ _);have Q:b≠h.nx:=fun e=>by rw[e,G]at ag;cases ag
 have B:∀j,((h.c' b none).add x).cR j=if j=h.nx then some x else if j=b then none else h.cR j:=fun j=>by rw[aw.Tj _ _ _ (show(h.c' b none).nx<eB from L),aw.vp h b j none K];rfl
 have t:mw σ (dZ σ h.nx q):=.c' G;have p1:∀j y f,j≠b->h.cR j=some y->σ j=some f->(gO w p.aY o).heap[f.aY]? =w.heap[f.aY]? :=fun j y f e a g=>by have:=r.inj j b y i f p a A g ag e;exact acn
 refine⟨⟨fun j y a=>?_,fun j m y J E F a d n l u=>?_,fun j a=>?_⟩,?_⟩
 ·rw[B]at a;by_cases e:j=h.nx
  ·subst e;rw[co rfl]at a;cases a;exact⟨q,by simp[dZ],by rw[s,adI au];exact M⟩
  ·rw[bs e]at a;by_cases c:j=b
   ·rw[co c]at a;cases a
   ·rw[bs c]at a;obtain⟨f,g,N⟩:=r.aY j y a;exact⟨f,t _ _ g,by rw[p1 j y f c a g];exact N.ext t⟩
 ·rw[B]at a d;by_cases e:j=h.nx
  ·subst e;simp only[dZ,co,cq]at n;subst n;rw[bs (h8 u)]at d;simp only[dZ,bs (h8 u)]at l;by_cases c:m=b
   ·rw[co c]at d;cases d
   ·rw[bs c]at d;rw[s];exact fun e=>r.inj m b J i F p d A l ag c e.symm
  ·rw[bs e]at a;simp only[dZ,bs e]at n;by_cases bO:j=b
   ·rw[co bO]at a;cases a
   ·rw[bs bO]at a;by_cases c:m=h.nx
    ·subst c;simp only[dZ,co,cq]at l;subst l;rw[s];exact r.inj j b y i E p a A n ag bO
    ·rw[bs c]at d;simp only[dZ,bs c]at l;by_cases D:m=b
     ·rw[co D]at d;cases d
     ·rw[bs D]at d;exact r.inj j m y J E F a d n l u
 ·have a:h.nx+1<=j:=a;rw[dZ,bs z];exact r.j9 j z
 ·refine⟨t,fun j H I=>?_,qQ _,by simp[gO],fun k R O=>?_,fun k ⟨j,y,f,a,g,e⟩=>?_,rfl,rfl,rfl⟩
  ·by_cases e:j=h.nx
   ·omega
   ·rw[dZ,bs e]at I;exact(I H).elim
  ·have:p.aY≠k:=fun e=>O ⟨b,i,p,A,ag,e⟩;simp[gO,Bk,this]
  ·rw[B]at a;by_cases aj:j=h.nx
   ·subst aj;simp only[dZ,co,cq]at g;subst g;exact .inr ⟨b,i,p,A,ag,s▸e⟩
   ·rw[bs aj]at a;simp only[dZ,bs aj]at g;by_cases C:j=b
    ·rw[co C]at a;cases a
    ·rw[bs C]at a;exact .inr ⟨j,y,f,a,g,e⟩
theorem cZ.drop{σ:b6}{h:aw}{w:World}(r:cZ ρ σ h w){b:Nat}(g:b<eB):cZ ρ σ (h.c' b none) w/\jF σ h w σ (h.c' b none) w:=by
 have m:=fun j=>aw.vp h b j none g;have sub:∀j y,(h.c' b none).cR j=some y->h.cR j=some y:=fun j y a=>by
  rw[m]at a;split at a
  ·cases a
  ·exact a
 exact⟨⟨fun j y a=>r.aY j y (sub j y a),fun j c y d q i a l=>r.inj j c y d q i (sub j y a) (sub c d l),fun j a=>r.j9 j a⟩,
  ⟨.refl _,fun _ H I=>(I H).elim,aZ _,aZ _,fun _ _ _=>rfl,fun k ⟨j,y,q,a,f,e⟩=>.inr ⟨j,y,q,sub j y a,f,e⟩,rfl,rfl,rfl⟩⟩
def VB(esz:Nat)(h:aw):O->Option (Nat×List O)
 |.slice b o n e _=>bif Nat.beq n 0 then some (0,[])else bif Nat.beq e esz then match h.cR b with
  |some (.cells _ vs _ _)=>bif Nat.ble (o+n*esz) vs.length then some (n,(vs.drop o).take (n*esz))else none
  |_=>none
  else none
 |.dH=>some (0,[])
 |.lA _ _ _ _=>some (0,[])
 |.str s=>bif Nat.beq esz 1 then some (s.length,s.map fun b=>.int .u8 (.ofNat b))else none
 |_=>none
theorem aiQ{σ:b6}:∀{s:List Nat},kI s->bY ρ σ (s.map fun b=>.int .u8 (.ofNat b))=some ((s.map UInt8.ofNat).map fun b=>.int .u8 (b.toNat:Int))
 |[],_=>rfl
 |a::l,h=>by
  obtain⟨H,I⟩:=P8 h
  simp only[qO,bY,aN,aiQ I]
  have:(UInt8.ofNat a).toNat=a:=by rw[V1];exact Bs H
  rw[this]
  rfl
theorem adX{σ:b6}{h:aw}{w:World}(t:cZ ρ σ h w){esz n:Nat}{x:O}{c:Value}{l:List O}(a:VB esz h x=some (n,l))(d:aN ρ σ x=some c): (Builtin.lenOf c).run P w=.ok n w/\l.length=n*esz/\∀k,k<=n->∃q,bY ρ σ (l.take (k*esz))=some q/\(Builtin.firstCells esz k c).run P w=.ok q.toArray w:=by
 unfold VB at a;split at a
 ·rename_i b o m e cap;obtain⟨p,ag,rfl⟩:=Ad d;cases ae:Nat.beq m 0 with
  |true=>rw[ae]at a;simp at a;obtain⟨rfl,rfl⟩:=a;have:=gx ae;subst this;refine⟨by simp[Builtin.lenOf],ao,fun k f=>⟨[],by simp[bY],?_⟩⟩;have:k=0:=z;subst this;simp[Builtin.firstCells,loadCells,loadCellsFrom]
  |false=>
   rw[ae]at a;simp only[jt]at a;cases aO:Nat.beq e esz with
   |false=>rw[aO]at a;simp at a
   |true=>
    rw[aO]at a;simp only[eP]at a;split at a
    ·rename_i elem vs J wr A;cases g:Nat.ble (o+m*esz) vs.length with
     |false=>rw[g]at a;simp at a
     |true=>have F:=hH g;rw[g]at a;simp at a;obtain⟨rfl,rfl⟩:=a;obtain⟨u,arr,bb,cs,y,H,I,E,D,i,B,_⟩:=t.cells A;obtain rfl:p=u:=gQ (ag.symm.trans y);have G:=m6 i;refine⟨by simp[Builtin.lenOf],bz,fun k f=>?_⟩;have C:k*esz<=m*esz:=qR _ f;refine⟨((cs.drop o).take (m*esz)).take (k*esz),tI _ (tI _ (vj _ i)),?_⟩;simp only[Builtin.firstCells];refine Qq p.aY (p.del+o) (k*esz) _ bz fun j r=>?_;rw[kN,B (o+j) z];simp[oZ,r,show j<m*esz by omega]
    ·cases a
 ·simp at a;obtain⟨rfl,rfl⟩:=a;simp only[aN,cq]at d;subst d;refine⟨by simp[Builtin.lenOf],ao,fun k f=>⟨[],by simp[bY],?_⟩⟩;simp[Builtin.firstCells]
 ·simp at a;obtain⟨rfl,rfl⟩:=a;simp only[aN,iz]at d;obtain⟨p,ag,rfl⟩:=d;refine⟨by simp[Builtin.lenOf],ao,fun k f=>⟨[],by simp[bY],?_⟩⟩;have:k=0:=z;subst this;simp[Builtin.firstCells,loadCells,loadCellsFrom]
 ·rename_i s;cases H:Nat.beq esz 1 with
  |false=>rw[H]at a;simp at a
  |true=>
  obtain rfl:=gx H;simp at a;obtain⟨rfl,rfl⟩:=a;obtain⟨ok,rfl⟩:=tJ d;refine⟨by simp[Builtin.lenOf,Ng],ao,fun k f=>⟨_,tI _ (aiQ ok),?_⟩⟩;simp only[Builtin.firstCells,aip,tm,fJ];congr 1;apply xT;simp[eU,Wu]
 ·cases a
theorem akc(n:Nat):∀(r c:Nat),Builtin.growBy n r c<=max c (2*n+192)
 |0,c=>by simp[Builtin.growBy];omega
 |r+1,c=>by
  rw[Builtin.growBy]
  split
  ·omega
  ·rename_i h
   have:=akc n r (c+(c+768)/4)
   omega
variable{n:Nat}
theorem aE'{c:Nat}(h:c<n):Builtin.nextslicecap n c<=2*n+192:=by
 unfold Builtin.nextslicecap;split;omega;split;omega;have:=akc n 4 c;omega
theorem aM8(af:Array Value)(n:Nat)(a:af.size≠0):Builtin.zeroCells af n=(vT n af.toList).toArray:=by
 unfold Builtin.zeroCells;exact aqB af n a
end
section
variable {P:Program} {ρ:cd}
def JX(e:TypeId)(esz bytes:Nat)(h:aw)(old:List O)(need:Nat)(l:List O):Option (O×aw):=
 bif Nat.ble ((2*need+192)*bytes) 281474976710656&&Nat.ble need 4611686018427387904&&Nat.blt h.nx eB then some (.slice h.nx 0 need esz none,h.add (.cells e (old++l) false true))else none
def Yg(e:TypeId)(esz bytes:Nat):List O->aw->Option (O×aw)
 |[d,x],h=>match VB esz h x with
  |none=>none
  |some (n,l)=>match d with
   |.dH=>bif Nat.beq n 0 then some (.dH,h)else JX e esz bytes h [] n l
   |.slice b off len g cap=>bif Nat.beq g esz then match Jw h b off esz cap with
    |none=>none
    |some (c,sF)=>
     bif Nat.ble (len+n) c then
      (bif Nat.beq n 0 then some (.slice b off len esz cap,h)else match h.cR b with
       |some (.cells a vs f true)=>bif Nat.ble (off+(len+n)*esz) vs.length&&l.all pX&&Nat.blt b eB then
         some (.slice b off (len+n) esz cap,h.c' b (some (.cells a (A9 vs (off+len*esz) l) f true)))else none
       |_=>none)
     else(bif sF&&Nat.beq len 0 then JX e esz bytes h [] n l else match h.cR b with
      |some (.cells a vs f wr)=>bif Nat.ble (off+len*esz) vs.length then
        (bif sF then JX e esz bytes h ((vs.drop off).take (len*esz)) (len+n) l
        else bif wr&&Nat.beq a e&&Nat.blt b eB&&l.all pX&&cap.isNone&&Nat.ble ((2*(len+n)+192)*bytes) 281474976710656&&Nat.ble (len+n) 4611686018427387904&&Nat.blt h.nx eB then
         some (.slice h.nx 0 (len+n) esz none,(h.c' b none).add (.cells e ((vs.drop off).take (len*esz)++l) false true))
        else none)
       else none
      |_=>none)
    else none
   |_=>none
 |_,_=>none
theorem acS{a:TypeDesc}(h:∀k,a≠ .int k):(match a with|TypeDesc.int _=>true|_=>false)=false:=by
 cases a<;>first|rfl|exact(h _ rfl).elim
theorem azG{w:World}{c:Array TypeId}{ty s e d:TypeId}{f:TypeDesc}{base:Option Addr}{sLen sCap n:Nat}{x:Value}{a:TypeInfo}{af:Value}{old ee:List Value}(t:c[0]? =some s)(E:c[1]? =some d)(hu:P.underlying s=some (.slice e))(aO:P.info? e=some a)(o:a.zero=some af)(u:af.cells.size=a.size)(q:a.size≠0) (D:P.underlying d=some f)(l:∀k,f≠ .int k)(r:(Builtin.lenOf x).run P w=.ok n w)(j:∀w',w'.heap=w.heap->(Builtin.firstCells a.size sLen (.slice base sLen sCap)).run P w'=.ok old.toArray w') (B:∀w',w'.heap=w.heap->(Builtin.firstCells a.size n x).run P w'=.ok ee.toArray w')(C:sCap<sLen+n)(A:(2*(sLen+n)+192)*a.bytes<=281474976710656)(F:sLen+n<=4611686018427387904):∃cap,sLen+n<=cap/\(Builtin.append_ c ty #[.slice base sLen sCap,x]).run P w=.ok (.slice (some ⟨w,0,none⟩) (sLen+n) cap) {w with heap:=w.heap.push (.cells (old++(ee++vT (cap-(sLen+n)) af.cells.toList)).toArray e),drawn:=w.drawn+1}:=by
 refine⟨(Question.appendCap (sLen+n) sCap e).cut (w.tape w.drawn (.appendCap (sLen+n) sCap e)),by simp[Question.cut],?_⟩;have y:=aE' C;have G:Builtin.nextslicecap (sLen+n) sCap*a.bytes<=281474976710656:=cO (qR _ y) A;have g:¬(((sLen+n:Nat):Int)>IntKind.i64.max/\(false=true∨a.bytes=0)):=by have:IntKind.i64.max=9223372036854775807:=rfl;rw[this];omega
 have m:¬Builtin.nextslicecap (sLen+n) sCap*a.bytes>2^48:=by have:(2:Nat)^48=281474976710656:=rfl;rw[this];omega
 have a0:(#[Value.slice base sLen sCap,x]:Array Value)[0]? =some (.slice base sLen sCap):=rfl;have bW:(#[Value.slice base sLen sCap,x]:Array Value)[1]? =some x:=rfl;have hcut:∀w':World,(choose (.appendCap (sLen+n) sCap e)).run P w'=.ok ((Question.appendCap (sLen+n) sCap e).cut (w'.tape w'.drawn (.appendCap (sLen+n) sCap e))) {w' with drawn:=w'.drawn+1}:=fun w'=>by simp[run_choose,Question.forced]
 have b:∀w',(typeInfo e).run P w'=.ok a w':=fun w'=>by simp[typeInfo,aO]
 have i:∀w',(zeroValue e).run P w'=.ok af w':=fun w'=>by simp[zeroValue,b,o]
 simp only[Builtin.append_,t,a0,bW,E];simp only[eZ,hR hu,eW,p3 aO,hR D,fJ,acS l,qM,pz,r,Q2,ox];rw[bs z];simp only[eZ,b,eW];rw[bs (by simpa using g)];simp only[eZ,b,eW];rw[bs m];simp only[eZ,hcut,eW,b,run_askRoom];rw[j {w with drawn:=w.drawn+1} rfl];simp only[eW];rw[B {w with drawn:=w.drawn+1} rfl];simp only[eW,i,newRow,eZ,run_newObj,fJ];rw[aM8 af.cells _ (by rw[u];exact q)];simp[Ix]
theorem YT{σ:b6}{vs:List O}{a b:List Value}(H:bY ρ σ vs=some a)(I:bY ρ σ vs=some b):a=b:=gQ (H.symm.trans I)
theorem grown{σ:b6}{w:World}{b:Nat}(A:σ b=none){e:TypeId}{esz need cap:Nat}{vs:List O}{cs zs:List Value}(a:bY ρ σ vs=some cs)(c:vs.length=need*esz)(d:zs.length=esz)(g:need<=cap): kn ρ (dZ σ b ⟨w.heap.size,0,cap*esz⟩) ⟨w.heap.size,0,cap*esz⟩ (some (.cells (cs++vT (cap-need) zs).toArray e)) (.cells e vs false true):=by
 have f:=m6 a;have j:need*esz<=cap*esz:=qR _ g;refine⟨_,(0,0),rfl,?_,(show vs.length<=cap*esz by omega),(fun h=>by cases h),⟨cs,w2 (.c' A) a,fun i hi=>?_⟩,fun _ i _ _=>ao⟩
 ·simp only[afi,ia,adm,d,gP];rw[f,c,←x0];congr 1;omega
 ·simp only[gP,Ws];rw[CX z]
theorem akd{σ:b6}{h:aw}{w:World}(j:cZ ρ σ h w){g:Array TypeId}{ty s e p:TypeId}{q:TypeDesc}{base:Option Addr}{sLen sCap n:Nat}{x:Value}{a:TypeInfo}{af:Value}{oldV b:List O}{old ee:List Value}(G:g[0]? =some s)(L:g[1]? =some p)(hu:P.underlying s=some (.slice e))(aO:P.info? e=some a)(y:a.zero=some af)(o:af.cells.size=a.size)(l:a.size≠0) (K:P.underlying p=some q)(u:∀k,q≠ .int k)(F:(Builtin.lenOf x).run P w=.ok n w)(t:∀w',w'.heap=w.heap->(Builtin.firstCells a.size sLen (.slice base sLen sCap)).run P w'=.ok old.toArray w') (I:∀w',w'.heap=w.heap->(Builtin.firstCells a.size n x).run P w'=.ok ee.toArray w')(J:sCap<sLen+n)(D:bY ρ σ oldV=some old)(C:bY ρ σ b=some ee)(z:oldV.length=sLen*a.size)(r:b.length=n*a.size) (A:(2*(sLen+n)+192)*a.bytes<=281474976710656)(B:sLen+n<=4611686018427387904)(i:h.nx<eB):∃c w',(Builtin.append_ g ty #[.slice base sLen sCap,x]).run P w=.ok c w'/\∃d,aN ρ d (.slice h.nx 0 (sLen+n) a.size none)=some c/\cZ ρ d (h.add (.cells e (oldV++b) false true)) w'/\jF σ h w d (h.add (.cells e (oldV++b) false true)) w':=by
 obtain⟨cap,H,E⟩:=azG (ty:=ty) G L hu aO y o l K u F t I J A B;have f:=j.j9 h.nx (aZ _);have m:=grown (w:=w) (e:=e) (esz:=a.size) (need:=sLen+n) (cap:=cap) (zs:=af.cells.toList) f (Ab D C) (by simp[z,r,x0]) (by simpa using o) H;rw[Ix]at m;refine⟨_,_,E,dZ σ h.nx ⟨w.heap.size,0,cap*a.size⟩,?_,j.add f i (qQ _) (Fv _) m,.add f i (aZ _) (qQ _)⟩;have:cap*a.size/a.size=cap:=afk _ (WC l);simp[aN,dZ,jv,this]
end
section
variable {P:Program} {ρ:cd}
theorem abS{w w':World}{b:Array TypeId}{ty s e c:TypeId}{d:TypeDesc}{base:Addr}{sLen sCap n:Nat}{x:Value}{a:TypeInfo}{ee:List Value}(j:b[0]? =some s)(o:b[1]? =some c)(hu:P.underlying s=some (.slice e))(aO:P.info? e=some a) (m:P.underlying c=some d)(f:∀k,d≠ .int k)(h:(Builtin.lenOf x).run P w=.ok n w)(l:(Builtin.firstCells a.size n x).run P w=.ok ee.toArray w)(g:sLen+n<=sCap) (i:(storeCells (base.add (sLen*a.size)) ee).run P w=.ok () w'): (Builtin.append_ b ty #[.slice (some base) sLen sCap,x]).run P w=.ok (.slice (some base) (sLen+n) sCap) w':=by
 have a0:(#[Value.slice (some base) sLen sCap,x]:Array Value)[0]? =some (.slice (some base) sLen sCap):=rfl;have bW:(#[Value.slice (some base) sLen sCap,x]:Array Value)[1]? =some x:=rfl;simp only[Builtin.append_,j,a0,bW,o];simp only[eZ,hR hu,eW,p3 aO,hR m,fJ,acS f,qM,pz,h,Q2,ox];rw[co g];simp only[eZ,l,eW,i,fJ]
theorem awp{w:World}{a:Array TypeId}{ty s e c:TypeId}{d:TypeDesc}{x:Value}{b:TypeInfo}{ee:Array Value}(i:a[0]? =some s)(m:a[1]? =some c)(hu:P.underlying s=some (.slice e))(aO:P.info? e=some b) (l:P.underlying c=some d)(f:∀k,d≠ .int k)(g:(Builtin.lenOf x).run P w=.ok 0 w)(j:(Builtin.firstCells b.size 0 x).run P w=.ok ee w): (Builtin.append_ a ty #[.slice none 0 0,x]).run P w=.ok (.slice none 0 0) w:=by
 have a0:(#[Value.slice none 0 0,x]:Array Value)[0]? =some (.slice none 0 0):=rfl;have bW:(#[Value.slice none 0 0,x]:Array Value)[1]? =some x:=rfl;simp only[Builtin.append_,i,a0,bW,m];simp only[eZ,hR hu,eW,p3 aO,hR l,fJ,acS f,qM,pz,g,Q2,ox];rw[co ao];simp only[eZ,j,eW,fJ]
theorem awq{o:Oper}{c:Call}{s e p5:TypeId}{pK:TypeDesc}{f:TypeInfo}{af:Value}(h:o.op=.call c)(Q:c.callee=.builtin .append)(S:c.argTypes[0]? =some s)(X:c.argTypes[1]? =some p5)(hu:P.underlying s=some (.slice e))(aO:P.info? e=some f) (aA:f.zero=some af)(h2:af.cells.size=f.size)(bT:f.size≠0)(V:P.underlying p5=some pK)(K:∀k,pK≠ .int k):Dh P ρ o (Yg e f.size f.bytes):=by
 intro σ vs m a w v bc an ai r J;rw[Ez h Q]at ai;have done:∀(u x F:Value) (w':World) (R:Prop),(c.args.map (ez a)).toList=[u,x]->(Builtin.append_ c.argTypes o.type #[u,x]).run P w=.ok F w'->(execOp (ez a) o).run P w=.ok (.value F) w':=fun u x F w' _ U ab=>by exact acI
 unfold Yg at J;split at J
 ·rename_i d x;split at J
  ·cases J
  ·rename_i n l Ue;obtain⟨sC,iU,DV,k',U⟩:=lz ai;obtain⟨N,W,TO⟩:=adX (P:=P) r Ue k';obtain⟨ee,t,pm⟩:=TO n (aZ _);have pn:l.take (n*f.size)=l:=uK z;rw[pn]at t;have ak:∀w',w'.heap=w.heap->(Builtin.firstCells f.size n iU).run P w'=.ok ee.toArray w':=fun w' Z=>by obtain⟨_,_,ch⟩:=adX (P:=P) (r.apw Z) Ue k';obtain⟨av,H,I⟩:=ch n (aZ _);rw[pn]at H;rw[YT t H];exact I
   split at J
   ·
    simp only[aN,cq]at DV;subst DV;cases ae:Nat.beq n 0 with
    |true=>rw[ae]at J;simp at J;obtain⟨rfl,rfl⟩:=J;obtain rfl:=gx ae;exact .inl ⟨_,w,done _ _ _ _ True U (awp S X hu aO V K N pm),σ,rfl,r,.refl _ _ _⟩
    |false=>
     rw[ae]at J;simp only[jt]at J;have pj:n≠0:=fun e=>by subst e;simp at ae
     unfold JX at J;cases g:(Nat.ble ((2*n+192)*f.bytes) 281474976710656&&Nat.ble n 4611686018427387904&&Nat.blt m.nx eB)with
     |false=>rw[g]at J;simp at J
     |true=>
      rw[g]at J;simp only[eP,cq,iA]at J;obtain⟨rfl,rfl⟩:=J;simp only[dQ]at g;obtain⟨⟨c1,c2⟩,c3⟩:=g;have c1:=hH c1;have c2:=hH c2;have c3:m.nx<eB:=by simpa using c3
      obtain⟨F,w',ab,C,L,ba,bx⟩:=akd (P:=P) r (ty:=o.type) (base:=none) (sLen:=0) (sCap:=0) (oldV:=[]) (old:=[]) S X hu aO aA h2 bT V K N (fun w' _=>by simp[Builtin.firstCells]) ak z rfl t ao W (by simpa using c1) z c3;simp only[gP]at L;exact .inl ⟨F,w',done _ _ _ _ True U ab,C,L,ba,bx⟩
   ·rename_i b off len cg cap;cases yC:Nat.beq cg f.size with
    |false=>rw[yC]at J;simp at J
    |true=>
     rw[yC]at J;obtain rfl:=gx yC;simp only[eP]at J;obtain⟨p,ag,rfl⟩:=Ad DV;split at J
     ·cases J
     ·rename_i tG sF Kg;obtain⟨b4,dF⟩:=YG r ag Kg;cases GP:Nat.ble (len+n) tG with
      |true=>
       have ad:=hH GP;rw[GP]at J;simp only[eP]at J;cases ae:Nat.beq n 0 with
       |true=>rw[ae]at J;simp at J;obtain⟨rfl,rfl⟩:=J;obtain rfl:=gx ae;have ap:l=[]:=LQ.1 (by simpa using W);subst ap;simp[bY]at t;subst t;have ab:=abS (P:=P) (ty:=o.type) (w':=w) (base:=⟨p.aY,p.del+off,none⟩) S X hu aO V K N pm (cO ad b4) (by simp[storeCells]);exact .inl ⟨_,w,done _ _ _ _ True U ab,σ,DV,r,.refl _ _ _⟩
       |false=>
        rw[ae]at J;simp only[jt]at J;split at J
        ·rename_i G E kj A;cases g:(Nat.ble (off+(len+n)*f.size) E.length&&l.all pX&&Nat.blt b eB)with
         |false=>rw[g]at J;simp at J
         |true=>
          rw[g]at J;simp only[eP,cq,iA]at J;obtain⟨rfl,rfl⟩:=J;simp only[dQ]at g;obtain⟨⟨c1,c2⟩,c3⟩:=g;have c1:=hH c1;have c3:b<eB:=by simpa using c3
          obtain⟨bR,w',ev,e2,mE,ce⟩:=r.aeG (off:=off+len*f.size) A c3 t (by rw[W];rw[x0]at c1;omega) (Gd c2 t);obtain rfl:p=bR:=gQ (ag.symm.trans ev);have ab:=abS (P:=P) (ty:=o.type) (w':=w') (base:=⟨p.aY,p.del+off,none⟩) S X hu aO V K N pm (cO ad b4) (by rw[zW,kN];exact e2 P);exact .inl ⟨_,w',done _ _ _ _ True U ab,σ,by simp[aN,ag],mE,ce⟩
        ·cases J
      |false=>
       have ad:tG<len+n:=by apply afj;intro dK;rw[Wx dK]at GP;cases GP
       rw[GP]at J;simp only[jt]at J;have ZY:∀(oldV:List O) (old:List Value),(∀w',w'.heap=w.heap->(Builtin.firstCells f.size len (.slice (some ⟨p.aY,p.del+off,none⟩) len (jv p off f.size cap))).run P w'=.ok old.toArray w')->bY ρ σ oldV=some old->oldV.length=len*f.size->
         jv p off f.size cap<len+n->(2*(len+n)+192)*f.bytes<=281474976710656->len+n<=4611686018427387904->m.nx<eB->
         Fz P o a w fun c w'=>∃C,aN ρ C (.slice m.nx 0 (len+n) f.size none)=some c/\cZ ρ C (m.add (.cells e (oldV++l) false true)) w'/\jF σ m w C (m.add (.cells e (oldV++l) false true)) w':=fun oldV old b8 cr ej i9 l2 ll yZ=>by
        obtain⟨F,w',ab,C,L,ba,bx⟩:=akd (P:=P) r (ty:=o.type) (base:=some ⟨p.aY,p.del+off,none⟩) S X hu aO aA h2 bT V K N b8 ak i9 cr t ej W l2 ll yZ;exact .inl ⟨F,w',done _ _ _ _ True U ab,C,L,ba,bx⟩
       cases M:(sF&&Nat.beq len 0)with
       |true=>
        rw[M]at J;simp only[eP]at J;simp only[dQ]at M;obtain⟨rfl,yE⟩:=M;obtain rfl:=gx yE;have:=dF rfl;unfold JX at J;cases g:(Nat.ble ((2*n+192)*f.bytes) 281474976710656&&Nat.ble n 4611686018427387904&&Nat.blt m.nx eB)with
        |false=>rw[g]at J;simp at J
        |true=>
         rw[g]at J;simp only[eP,cq,iA]at J;obtain⟨rfl,rfl⟩:=J;simp only[dQ]at g;obtain⟨⟨c1,c2⟩,c3⟩:=g;have c1:=hH c1;have c2:=hH c2;have c3:m.nx<eB:=by simpa using c3
         have:=ZY [] [] (fun w' _=>by simp[Builtin.firstCells,loadCells,loadCellsFrom]) rfl ao z (by simpa using c1) z c3;simpa using this
       |false=>
        rw[M]at J;simp only[jt]at J;split at J
        ·rename_i G E kj wr A;cases gc:Nat.ble (off+len*f.size) E.length with
         |false=>rw[gc]at J;simp at J
         |true=>
          have TX:=hH gc;rw[gc]at J;simp only[eP]at J;have Kt:∀w',w'.heap=w.heap->∃cs,bY ρ σ ((E.drop off).take (len*f.size))=some cs/\(Builtin.firstCells f.size len (.slice (some ⟨p.aY,p.del+off,none⟩) len (jv p off f.size cap))).run P w'=.ok cs.toArray w':=fun w' Z=>by obtain⟨bR,arr,bb,cs,ev,H,I,ah,aM,b3,fM,_⟩:=(r.apw Z).cells A;obtain rfl:p=bR:=gQ (ag.symm.trans ev);have ga:=m6 b3;refine⟨_,tI _ (vj _ b3),?_⟩;simp only[Builtin.firstCells];refine Qq p.aY (p.del+off) (len*f.size) _ bz fun j B=>?_;rw[kN,fM (off+j) z];simp[oZ,B]
          obtain⟨old,Y,_⟩:=Kt w rfl;have al:∀w',w'.heap=w.heap->(Builtin.firstCells f.size len (.slice (some ⟨p.aY,p.del+off,none⟩) len (jv p off f.size cap))).run P w'=.ok old.toArray w':=fun w' Z=>by obtain⟨cs,b8,cr⟩:=Kt w' Z;rw[YT Y b8];exact cr
          have O8:((E.drop off).take (len*f.size)).length=len*f.size:=bz;cases sF with
          |true=>
           simp only[eP]at J;have:=dF rfl;unfold JX at J;cases g:(Nat.ble ((2*(len+n)+192)*f.bytes) 281474976710656&&Nat.ble (len+n) 4611686018427387904&&Nat.blt m.nx eB)with
           |false=>rw[g]at J;simp at J
           |true=>rw[g]at J;simp only[eP,cq,iA]at J;obtain⟨rfl,rfl⟩:=J;simp only[dQ]at g;obtain⟨⟨c1,c2⟩,c3⟩:=g;exact ZY _ old al Y O8 z (hH c1) (hH c2) (by simpa using c3)
          |false=>
           simp only[jt]at J;cases g:(wr&&Nat.beq G e&&Nat.blt b eB&&l.all pX&&cap.isNone&&Nat.ble ((2*(len+n)+192)*f.bytes) 281474976710656&&Nat.ble (len+n) 4611686018427387904&&Nat.blt m.nx eB)with
           |false=>rw[g]at J;simp at J
           |true=>
            rw[g]at J;simp only[eP,cq,iA]at J;obtain⟨rfl,rfl⟩:=J;simp only[dQ]at g;obtain⟨⟨⟨⟨⟨⟨⟨rfl,c2⟩,c3⟩,c4⟩,c5⟩,fe⟩,nG⟩,T⟩:=g;obtain rfl:=gx c2;have c3:b<eB:=by simpa using c3
            have fe:=hH fe;have nG:=hH nG;have T:m.nx<eB:=by simpa using T
            cases cap with
            |some q=>simp at c5
            |none=>
             by_cases Pe:len+n<=jv p off f.size none
             ·
              obtain⟨bR,arr,bb,cs,ev,H,I,ah,aM,b3,fM,e8,ff⟩:=r.cells A;obtain rfl:p=bR:=gQ (ag.symm.trans ev);have au:p.aY<w.heap.size:=(g6.1 H).1;have ga:=m6 b3;have Ck:=m6 t;have am:(len+n)*f.size<=p.tot-off:=by have:(len+n)*f.size<=((p.tot-off)/f.size)*f.size:=qR _ Pe;exact cO this (Nat.div_mul_le_self _ _)
              rw[x0]at am;have ar:off<=p.tot:=z;have vx:∀i,p.del<=i->i<arr.size->¬(bb.1<=i/\i<bb.2):=fun i hi au=>by have:=ff rfl i hi au;simp only[World.frozen?,H]at this;obtain⟨eh,q8⟩:=bb;simp at this⊢;exact this
              have e2:=adx (P:=P) p.aY (p.del+off+len*f.size) G bb ee 0 w arr H (Gd c4 t) fun j B=>⟨z,vx _ z z⟩;simp only[h7]at e2;have ab:=abS (P:=P) (ty:=o.type) (base:=⟨p.aY,p.del+off,none⟩) S X hu aO V K N pm Pe (by rw[zW];exact e2);have lZ:=r.j9 m.nx (aZ _);have dO:kn ρ (dZ σ m.nx ⟨p.aY,p.del+off,p.tot-off⟩) ⟨p.aY,p.del+off,p.tot-off⟩ (some (.cells (tb arr (p.del+off+len*f.size) ee) G bb)) (.cells G ((E.drop off).take (len*f.size)++l) false true):=by
               refine⟨_,bb,rfl,by rw[QA];simp only;omega,?_,(fun h=>by cases h),⟨_,w2 (.c' lZ) (Ab Y t),fun i hi=>?_⟩,fun _ i hi au=>?_⟩
               ·simp only[ia,O8,W];omega
               ·simp only[ia,O8,W]at hi;have aq:=m6 Y;rw[O8]at aq;simp only;rw[Vz _ _ _ _ z];by_cases aj:i<len*f.size
                ·rw[bs z,CX z,kN,e8 (off+i) z];have:=YT Y (tI (len*f.size) (vj off b3));rw[this];simp[oZ,aj]
                ·rw[co z,Fs z];congr 1;omega
               ·rw[QA]at au;simp only at hi;exact vx i z au
              obtain⟨L,ba⟩:=r.rename (q:=⟨p.aY,p.del+off,p.tot-off⟩) A ag c3 T au rfl dO;refine .inl ⟨_,_,done _ _ _ _ True U ab,_,?_,L,ba⟩;simp[aN,dZ,jv]
             ·
              have M:=ZY _ old al Y O8 z fe nG T;refine M.mono fun F w' ⟨C,b8,cr,ej⟩=>⟨C,b8,?_⟩;have Kd:b≠m.nx:=fun e=>by have:=r.j9 m.nx (aZ _);rw[←e,ag]at this;cases this
              have TF:∀j,((m.c' b none).add (.cells G ((E.drop off).take (len*f.size)++l) false true)).cR j=((m.add (.cells G ((E.drop off).take (len*f.size)++l) false true)).c' b none).cR j:=fun j=>by
               rw[aw.Tj _ _ _ (show(m.c' b none).nx<eB from T),aw.vp m b j none c3,aw.vp _ b j none c3,aw.Tj _ _ _ T];by_cases aj:j=m.nx
               ·subst aj;simp[aw.c',h8 Kd]
               ·by_cases aF:j=b
                ·subst aF;simp[aw.c',Kd]
                ·simp[aw.c',aj,aF]
              obtain⟨eD,e'⟩:=cr.drop c3;have D:=ej.trans e';exact⟨⟨fun j y B=>eD.aY j y (by rw[←TF];exact B),fun j fZ y mu q gE B gd=>eD.inj j fZ y mu q gE (by rw[←TF];exact B) (by rw[←TF];exact gd),fun j B=>eD.j9 j B⟩,
               ⟨D.ext,D.ee,D.nx,D.size,D.kept,fun k ⟨j,y,q,B,aC,e⟩=>D.p2 k ⟨j,y,q,by rw[←TF];exact B,aC,e⟩,D.os,D.output,D.tape⟩⟩
        ·cases J
   ·cases J
 ·cases J
end
end Go.cv
namespace Go.cv
open Go.Proofs.Tryz
section
variable {P:Program} {ρ:cd}
def w_(op:BinOp)(b:Bool):Option O:=match op with
 |.eql=>some (.bool b)
 |.neq=>some (.bool (!b))
 |_=>none
variable{o:Oper}{t:TypeId}{x y:Operand}{w:World}{b:Bool}
theorem JQ{op:BinOp}{f:TypeId}(h:o.op=.binOp op t x y f){a:Array Value}{u v:Value}{r:O}{σ:b6}(hu:ez a x=u)(J:ez a y=v)(an:∀op,(eqGuard op t x y u v).run P w=.ok () w) (aO:∀n,(Op.equalIn (n+2) t u v).run P w=.ok b w)(H:binOp .eql t u v=(do pure (.bool (←Op.equal t u v))))(I:binOp .neq t u v=(do pure (.bool (!(←Op.equal t u v)))))(d:w_ op b=some r):∃c,aN ρ σ r=some c/\(execOp (ez a) o).run P w=.ok (.value c) w:=by
 have e:(Op.equal t u v).run P w=.ok b w:=aO 9998;cases op<;>simp[w_]at d;subst d;exact⟨_,rfl,by simp[execOp,h,hu,J,an,H,e]⟩;subst d;exact⟨_,rfl,by simp[execOp,h,hu,J,an,I,e]⟩
def Zq(op:BinOp):List O->Option O
 |[.rn,.rn]=>w_ op true
 |[.iZ _ _,.rn]=>w_ op false
 |[.rn,.iZ _ _]=>w_ op false
 |[.iZ b o,.iZ a c]=>bif Nat.beq b a then w_ op (Nat.beq o c)else none
 |_=>none
variable{k e:TypeId}
theorem ayK{op:BinOp}{f:TypeInfo}(h:o.op=.binOp op t x y k)(hd:P.underlying t=some (.pointer e))(aO:P.info? e=some f)(g:f.size≠0):mA P ρ o (Zq op):=by
 intro σ s a w r an Y J;have na:∀p q op,(eqGuard op t x y (.pointer p) (.pointer q)).run P w=.ok () w:=fun p q op=>JP (.inl ao) ao;unfold Zq at J;split at J;exact aEo;obtain⟨w4,gA,k_,gn,U⟩:=lz Y;simp[fW,h,Op.operands]at U;obtain⟨p,ag,rfl⟩:=w3 k_;simp only[aN,cq]at gn;subst gn;exact acp;obtain⟨w4,gA,k_,gn,U⟩:=lz Y;simp[fW,h,Op.operands]at U;obtain⟨p,ag,rfl⟩:=w3 gn;simp only[aN,cq]at k_;subst k_;exact acp
 ·rename_i b d j c;cases A:Nat.beq b j with
  |false=>rw[A]at J;simp at J
  |true=>
   rw[A]at J;simp only[eP]at J;obtain rfl:=gx A;obtain⟨w4,gA,k_,gn,U⟩:=lz Y;simp[fW,h,Op.operands]at U;obtain⟨p,ag,rfl⟩:=w3 k_;obtain⟨q,i,rfl⟩:=w3 gn;obtain rfl:p=q:=gQ (ag.symm.trans i);have l:((⟨p.aY,p.del+d,none⟩:Addr)==⟨p.aY,p.del+c,none⟩)=Nat.beq d c:=by
    by_cases aj:d=c;subst aj;simp;rw[M' aj];simp<;>omega
   exact JQ h U.1 U.2 (na _ _) (fun n=>by simp[Op.equalIn,hR hd,p3 aO,g,sameAddr,l]) rfl rfl J
 cases J
def Zr(op:BinOp):List O->Option O
 |[.dH,.dH]=>w_ op true
 |[.slice _ _ _ _ _,.dH]=>w_ op false
 |[.lA _ _ _ _,.dH]=>w_ op false
 |_=>none
theorem ayL{op:BinOp}(h:o.op=.binOp op t x y k)(hd:P.underlying t=some (.slice e)):mA P ρ o (Zr op):=by
 intro σ s a w r an d J;have na:∀bW cD a3 j i cw op,(eqGuard op t x y (.slice bW cD a3) (.slice j i cw)).run P w=.ok () w:=fun _ _ _ _ _ _ op=>JP (.inl ao) ao;unfold Zr at J;split at J;obtain⟨g,f,c,b,U⟩:=lz d;simp[fW,h,Op.operands]at U;simp only[aN,cq]at c b;subst c;subst b;exact acH;obtain⟨g,f,c,b,U⟩:=lz d;simp[fW,h,Op.operands]at U;obtain⟨p,ag,rfl⟩:=Ad c;simp only[aN,cq]at b;subst b;exact acH;obtain⟨g,f,c,b,U⟩:=lz d;simp[fW,h,Op.operands]at U;simp only[aN,iz]at c;obtain⟨p,ag,rfl⟩:=c;simp only[aN,cq]at b;subst b;exact acH;cases J
def Zn(op:BinOp):List O->Option O
 |[.AW,.AW]=>w_ op true
 |[.fn _ _ _,.AW]=>w_ op false
 |_=>none
theorem ayI{op:BinOp}{b c:Array TypeId}{d:Bool}(h:o.op=.binOp op t x y e)(hd:P.underlying t=some (.func b c d)):mA P ρ o (Zn op):=by
 intro σ s a w r an Y J;unfold Zn at J;split at J;exact aEp;obtain⟨w4,gA,k_,gn,U⟩:=lz Y;simp[fW,h,Op.operands]at U;simp only[aN]at k_ gn;split at k_<;>cases k_;cases gn;exact JQ h U.1 U.2 (fun op=>JP (.inl ao) ao) (fun n=>by simp[Op.equalIn,hR hd]) rfl rfl J;cases J
def B4:O->O->Option Bool
 |.int k a,.int j b=>bif decide (k=j)then some (w9 a b)else none
 |.str a,.str b=>some (xH a b)
 |.bool a,.bool b=>some (a==b)
 |_,_=>none
def ri:Nat->O->Bool
 |0,.int _ _=>true
 |1,.str _=>true
 |2,.bool _=>true
 |_,_=>false
def N0(aP a:List O):List (Nat×Nat)->Option Bool
 |[]=>some true
 |(o,b)::l=>match aP[o]?,a[o]? with
  |some x,some y=>bif ri b x then match B4 x y with
   |some true=>N0 aP a l
   |some false=>some false
   |none=>none
   else none
  |_,_=>none
def Zs(op:BinOp)(c:List (Nat×Nat)):List O->Option O
 |[.agg aP,.agg a]=>match N0 aP a c with
  |some b=>w_ op b
  |none=>none
 |_=>none
def qK:TypeDesc->Option Nat
 |.int _=>some 0
 |.string=>some 1
 |.bool=>some 2
 |_=>none
def JU(P:Program):List Field->Option (List (Nat×Nat))
 |[]=>some []
 |f::a=>match P.underlying f.type with
  |some d=>match qK d,JU P a with
   |some t,some r=>if f.name= "_" then none else some ((f.offset,t)::r)
   |_,_=>none
  |none=>none
theorem ajH{σ:b6}{d:TypeDesc}{g:Nat}{x y:O}{i l:Value}{n:Nat}(hd:P.underlying t=some d)(ai:qK d=some g)(a:aN ρ σ x=some i)(c:aN ρ σ y=some l)(e:ri g x=true)(h:B4 x y=some b): (Op.equalIn (n+1) t i l).run P w=.ok b w:=by
 unfold B4 at h;split at h;rename_i k p j q;by_cases f:k=j;subst f;simp at h;subst h;obtain rfl:=oH a;obtain rfl:=oH c;cases d<;>simp[qK]at ai<;>subst ai<;>simp[ri]at e;rename_i r;rw[run_equalIn_int w n t k r p q hd,DF];rfl;simp[f]at h;cases h;obtain⟨m,rfl⟩:=tJ a;obtain⟨o,rfl⟩:=tJ c;cases d<;>simp[qK]at ai<;>subst ai<;>simp[ri]at e;rw[run_equalIn_string w n t _ _ hd,S6 m o];cases h;simp only[aN,cq]at a c;subst a;subst c;cases d<;>simp[qK]at ai<;>subst ai<;>simp[ri]at e;exact run_equalIn_bool' w n t _ _ hd;cases h
theorem are{d:TypeDesc}{b:Nat}(hd:P.underlying t=some d)(ai:qK d=some b){cs:Array Value}{o:Nat}{c:Value}(a:cs[o]? =some c):(part t cs o).run P w=.ok c w:=by
 have:vd d=false:=by cases d<;>simp[qK]at ai<;>rfl
 simp[part,Vv hd,this,a]
theorem ajI{σ:b6}{aP s:List O}{j l:List Value}(p:bY ρ σ aP=some j)(q:bY ρ σ s=some l)(n:Nat)(w:World):∀{k:List Field} {g:List (Nat×Nat)} {b:Bool},JU P k=some g->N0 aP s g=some b->
  (Op.eqFields (n+1) j.toArray l.toArray k).run P w=.ok b w
 |[],g,b,a,h=>by
  simp[JU]at a;subst a
  simp[N0]at h;subst h
  simp[Op.eqFields]
 |f::k,g,b,a,h=>by
  simp only[JU]at a
  split at a
  ·rename_i d hd
   split at a
   ·rename_i F r c C
    split at a
    ·cases a
    ·rename_i m
     cases a
     simp only[N0]at h
     split at h
     ·rename_i x y G B
      obtain⟨c1,D,t⟩:=Ac p G
      obtain⟨c2,E,A⟩:=Ac q B
      have u:=are (P:=P) (w:=w) hd c (cs:=j.toArray) (o:=f.offset) (by simpa using D)
      have z:=are (P:=P) (w:=w) hd c (cs:=l.toArray) (o:=f.offset) (by simpa using E)
      cases e:ri F x with
      |false=>rw[e]at h;simp at h
      |true=>
       rw[e]at h
       simp only[eP]at h
       split at h
       ·rename_i aO
        have i:=ajH (P:=P) (n:=n) (w:=w) hd c t A e aO
        simp only[Op.eqFields,m,ne_eq,not_false_eq_true,ox,eZ,u,z,i,eW,aeS,qM,pz]
        exact ajI p q n w C h
       ·rename_i aO
        cases h
        have i:=ajH (P:=P) (n:=n) (w:=w) hd c t A e aO
        simp[Op.eqFields,m,u,z,i]
       ·cases h
     ·cases h
   ·cases a
  ·cases a
theorem ayN{op:BinOp}{m:TypeId}{d:Array Field}{i:List (Nat×Nat)}(h:o.op=.binOp op t x y m)(hd:P.underlying t=some (.struct d))(l:P.stoodInHeld t=false)(q:P.eqGuardType P.depth t=false)(k:JU P d.toList=some i):mA P ρ o (Zs op i):=by
 intro σ s a w r an j J;unfold Zs at J;split at J
 ·rename_i aP z;split at J
  ·rename_i b A;obtain⟨E,B,g,f,c⟩:=lz j;simp[fW,h,Op.operands]at c;simp only[aN,iz]at g f;obtain⟨C,p,rfl⟩:=g;obtain⟨D,u,rfl⟩:=f;have e:P.fieldsOf t=d:=by simp[Program.fieldsOf,hd]
   refine JQ h c.1 c.2 (fun op=>run_eqGuard_agg w op t x y _ _ q) (fun n=>?_) rfl rfl J;rw[run_equalIn_struct w (n+1) t _ _ (by rw[e];exact hd) l,e];exact ajI p u n w k A
  cases J
 cases J
end
end Go.cv
namespace Go.cv
def qT(ρ:cd)(σ:b6)(h:aw)(w:World)(v:O)(b:aw)(c:Value)(w':World):Prop:=∃a,aN ρ a v=some c/\cZ ρ a b w'/\jF σ h w a b w'
def nw(P:Program)(ρ:cd)(f:FuncId)(F:List O->aw->Option (O×aw)):Prop:=
 ∀σ args h v a cs w,kA P σ->bY ρ σ args=some cs->cZ ρ σ h w->F args h=some (v,a)->
  (∃c w',(callFunc f cs.toArray).run P w=.ok (.value c) w'/\qT ρ σ h w v a c w')∨
  ((callFunc f cs.toArray).run P w=.ok (.enter f cs.toArray) w/\tz P (Frame.enter P f cs.toArray .normal) w (qT ρ σ h w v a))
structure jE where
 call:FuncId->List O->aw->Option (O×aw)
 yield:Nat->List O->aw->Option (O×aw)
def ahJ(P:Program)(ρ:cd)(F:Nat->List O->aw->Option (O×aw)):Prop:=
 ∀σ b args h v a cs w p,kA P σ->bY ρ σ args=some cs->cZ ρ σ h w->σ b=some p->F b args h=some (v,a)->
  ∃f t x y,(Instr.yield p.aY cs.toArray).run P w=.ok (.round p.aY f t x y) w/\tz P (Frame.round p.aY f t x y .normal) w (qT ρ σ h w v a)
structure uO (P:Program) (ρ:cd) (E:jE):Prop where
 call:∀f,nw P ρ f (E.call f)
 yield:ahJ P ρ E.yield
def Ns(E:jE):List O->aw->Option (O×aw)
 |.fn f first cap::args,h=>E.call f (first++(args++cap)) h
 |.xS b::args,h=>E.yield b args h
 |_,_=>none
section
variable {P:Program} {ρ:cd}
theorem aw3{E:jE}(r:uO P ρ E){o:Oper}{c:Call}{x:Operand}(h:o.op=.call c)(i:c.callee=.value x):Dh P ρ o (Ns E):=by
 intro σ s m a w v q an j n J;have F:fW o a=ez a x::c.args.toList.map (ez a):=by simp[fW,h,Op.operands,Call.operands,i]
 rw[F]at j;unfold Ns at J;split at J
 ·rename_i f first cap args
  obtain⟨C,g,H,I,e⟩:=qo j;simp only[p7]at e;obtain⟨aj,k⟩:=e;simp only[aN]at H;split at H
  ·rename_i u D y K;cases H;have G:=Ab y (Ab I K);have l:(execOp (ez a) o).run P w=(callFunc f (u++(g++D)).toArray).run P w:=by simp only[execOp,h,resolve,i,aj,Deferred.ofValue,eZ,fJ,eW,invoke];congr 2;apply xT;simp[←k]
   rcases r.call f σ _ m v q _ w an G n J with⟨B,w',d,aH⟩|⟨d,aH⟩
   exact .inl ⟨B,w',by rw[l];exact d,aH⟩;exact .inr (.inr (.inl ⟨f,_,w,by rw[l];exact d,aH⟩))
  cases H
 ·rename_i b args;obtain⟨C,g,H,I,e⟩:=qo j;simp only[p7]at e;obtain⟨aj,k⟩:=e;simp only[aN,iz]at H;obtain⟨p,ag,rfl⟩:=H;obtain⟨f,t,z,A,d,aH⟩:=r.yield σ b _ m v q g w p an I n ag J;refine .inr (.inr (.inr ⟨p.aY,f,t,z,A,w,?_,aH⟩));simp only[execOp,h,resolve,i,aj,Deferred.ofValue,eZ,fJ,eW,invoke];have:(#[]++c.args.map (ez a))=g.toArray:=by apply xT;simp[←k]
  rw[this];exact d
 cases J
def xC:List O->Nat->S->S
 |[],_,s=>s
 |v::l,i,s=>xC l (i+1) (put i v s)
theorem aj5{t:Nat}(ai:t<256):∀{l:List O} {i:Nat} {s:S},i+l.length<=256->g t (xC l i s)=if i<=t/\t<i+l.length then l.getD (t-i) ql else g t s
 |[],i,s,_=>by simp[xC];intro H I;omega
 |v::l,i,s,h=>by
  simp only[l7]at h
  rw[xC,aj5 ai z]
  by_cases e:t=i
  ·subst e
   rw[bs z,co ao]
   simp only[ZQ,Nat.sub_self,List.getD_cons_zero]
  ·by_cases H:i+1<=t/\t<i+1+l.length
   ·rw[co H,co bz]
    have:t-i=(t-(i+1))+1:=z
    rw[this];simp
   ·rw[bs H,bs bz]
    exact ZP t i v s z z e
theorem nD.start{σ:b6}{args:List O}{cs:List Value}{ay:Nat}(a:bY ρ σ args=some cs)(d:args.length<=ay)(b:ay<=256):nD ρ σ ay (xC args 0 bP) (cs.toArray++Array.replicate (ay-cs.toArray.size) undef):=by
 have c:=m6 a;refine⟨bz,b,fun i hi=>?_⟩;rw[aj5 z z];by_cases h:i<args
 ·rw[co z,afn];have an:args[i]? =some (args.getD i ql):=by simp[List.getD,h]
  obtain⟨x,H,I⟩:=Ac a an;rw[I];have:(cs.toArray++Array.replicate (ay-cs.toArray.size) undef)[i]? =some x:=by rw[asL bz];simpa using H
  rw[asK,this];rfl
 ·rw[bs z];have:g i bP=ql:=azx i;rw[this,NB];have:(cs.toArray++Array.replicate (ay-cs.toArray.size) undef)[i]? =some undef:=by rw[Array.getElem?_append_right bz,Array.getElem?_replicate,co bz]
  rw[asK,this];rfl
def NQ:List Nat->aw->Option aw
 |[],h=>some h
 |b::l,h=>match h.cR b with
  |some .deferred=>bif Nat.blt b eB then NQ l (h.c' b none)else none
  |_=>none
inductive sw where
 |tmp (t:Nat)
 |cell (t:Nat) (agg:Bool) (n:Nat)
def adn(s:S)(h:aw):sw->Option O
 |.tmp t=>some (g t s)
 |.cell t agg n=>Es agg n [g t s] h
def Qm(s:S)(h:aw):List sw->Option (List O)
 |[]=>some []
 |r::l=>match adn s h r,Qm s h l with
  |some x,some y=>some (x::y)
  |_,_=>none
def Hs:List O->O
 |[v]=>v
 |l=>.tup l
def DG(rs:List sw)(x:gH):Option (O×aw):=match NQ x.jX x.h with
 |some a=>match Qm x.s a rs with
  |some l=>some (Hs l,a)
  |none=>none
 |none=>none
def DI(ay:Nat)(rs:List sw)(F:ko)(args:List O)(h:aw):Option (O×aw):=bif Nat.ble args.length ay then match F ⟨xC args 0 bP,h,[]⟩with
 |some (.il,x)=>DG rs x
 |some (.ret,x)=>DG rs x
 |_=>none
 else none
def La(a:Array Value):ResultVar->Sem Value
 |.tmp t=>pure (a.getD t undef)
 |.cell b t=>do loadVar t (←asAddr (a.getD b undef))
theorem aqO(fn:Func)(a:Array Value):results fn a=(do let vs ←fn.results.mapM (La a);pure (if h:vs.size=1 then vs[0]else .tuple vs)):=by
 unfold results;congr 2
def ava(P:Program)(ay:Nat):ResultVar->sw->Prop
 |.tmp t,.tmp b=>t=b/\t<ay
 |.cell a t,.cell a' agg n=>a=a'/\a<ay/\∃d i,P.underlying t=some d/\P.info? t=some i/\agg=vd d/\n=i.size
 |_,_=>False
def MR(P:Program)(ay:Nat):List ResultVar->List sw->Prop
 |[],[]=>True
 |r::l,x::m=>ava P ay r x/\MR P ay l m
 |_,_=>False
theorem ado{σ:b6}{s:S}{h:aw}{a:Array Value}{w:World}{ay:Nat}(an:kA P σ)(j:nD ρ σ ay s a)(A:cZ ρ σ h w):∀{l:List ResultVar} {m:List sw} {vs:List O},MR P ay l m->Qm s h m=some vs->
  ∃cs,bY ρ σ vs=some cs/\(l.mapM (La a):Sem (List Value)).run P w=.ok cs w
 |[],[],vs,_,J=>by simp[Qm]at J;subst J;exact⟨[],rfl,ao⟩
 |[],_::_,_,h,_=>h.elim
 |_::_,[],_,h,_=>h.elim
 |r::l,x::m,vs,⟨H,I⟩,J=>by
  simp only[Qm]at J
  split at J
  ·rename_i y K e F
   cases J
   obtain⟨cs,u,z⟩:=ado an j A I F
   cases r with
   |tmp t=>
    cases x with
    |tmp Q=>
     obtain⟨rfl,au⟩:=H
     simp[adn]at e
     subst e
     refine⟨a.getD t undef::cs,by simp[bY,j.2.2 t au,u],?_⟩
     simp only[LS,eZ,La,fJ,eW,z]
    |cell _ _ _=>exact H.elim
   |cell b t=>
    cases x with
    |tmp _=>exact H.elim
    |cell L agg n=>
     obtain⟨rfl,au,d,i,hd,hi,rfl,rfl⟩:=H
     simp only[adn]at e
     have D:=anz (P:=P) (ρ:=ρ) (o:={dst:=none,op:=.load t (.tmp b),type:=0,pos:= "",after:=#[],guard:=none}) rfl hd hi σ [g b s] h a w y an (by simp[fW,Op.operands,bY,j.2.2 b au,ez]) A e
     obtain⟨c,G,f⟩:=D
     refine⟨c::cs,by simp[bY,G,u],?_⟩
     have E:(do loadVar t (←asAddr (a.getD b undef)):Sem Value).run P w=.ok c w:=by
      unfold Es at e
      split at e
      ·rename_i M off C
       have B:=j.2.2 b au
       simp only[p7,Bt]at C
       rw[C]at B
       obtain⟨p,ag,k⟩:=w3 B
       simp only[execOp,ez,k,Instr.loadAt,Instr.sureAddr,eZ,fJ,eW]at f
       simp only[k,asAddr,eZ,fJ,eW]
       generalize (loadVar t ⟨p.aY,p.del+off,none⟩).run P w=q at f
       cases q with
       |ok N w'=>simp at f;obtain⟨rfl,rfl⟩:=f;rfl
       |halt _ _=>simp at f
      cases e
     rw[LS,eZ]
     simp only[La]
     rw[E]
     simp only[eW,eZ,z,fJ]
  cases J
end
end Go.cv
namespace Go.cv
open Go.Proofs.Tryz
def yq(b:l9)(a:Array Value)(ds:List Deferred)(todo:List Item):Frame:={fr b a ds todo with mode:=.returning}
section
variable {P:Program} {ρ:cd} {b:l9} {a:Array Value} {ds:List Deferred} {k:List Item} {cs:List Frame} {w:World}
theorem arQ(A:b.roundOf=none):step P (lone (fr b a ds (.code .ret::k)) cs w)=.next (lone (yq b a ds (.code .ret::k)) cs w):=
 l6 (by simp[stepG,stepG.exec,fr,yq,A])
theorem arN(A:b.roundOf=none):step P (lone (fr b a ds []) cs w)=.next (lone (yq b a ds []) cs w):=
 l6 (by simp[stepG,stepG.exec,fr,yq,A])
variable{r:Nat}{o:Obj}
theorem Vu(h:w.heap[r]? =some o)(d:∀c e f,o≠ .cells c e f):(getObj r).run P w=.ok o w:=by
 cases o<;>first|exact(d _ _ _ rfl).elim|simp only[getObj,Sem.run,h]
theorem Ld{d:Obj}(h:w.heap[r]? =some o)(g:∀c e f,o≠ .cells c e f):(setObj r d).run P w=.ok () (gO w r d):=by
 cases o<;>first|exact(g _ _ _ rfl).elim|(simp only[setObj,Sem.run,h];rfl)
theorem aJm(h:w.heap[r]? =some (.deferred (some []))): step P (lone (yq b a ({target:=.collected r,args:=#[]}::ds) k) cs w)=.next (lone (yq b a ds k) cs (gO w r (.deferred none))):=by
 have c:(Instr.takeDeferred r).run P w=.ok [] (gO w r (.deferred none)):=by simp[Instr.takeDeferred,Vu (P:=P) h,Ld (P:=P) h]
 exact l6 (by simp[stepG,unwind,yq,fr,Iu,c])
theorem cZ.frame{σ:b6}{h:aw}(r:cZ ρ σ h w){w':World}(e:∀k,lw σ h k->w'.heap[k]? =w.heap[k]?):cZ ρ σ h w':=
 ⟨fun j y c=>by
  obtain⟨p,ag,d⟩:=r.aY j y c
  exact⟨p,ag,by rw[e p.aY ⟨j,y,p,c,ag,rfl⟩];exact d⟩,r.inj,r.j9⟩
theorem cZ.aj'{σ:b6}{h:aw}(r:cZ ρ σ h w){j:Nat}{x:eC}{p:nB}(c:h.cR j=some x)(ag:σ j=some p)(d:j<eB)(o:Obj):cZ ρ σ (h.c' j none) (gO w p.aY o)/\jF σ h w σ (h.c' j none) (gO w p.aY o):=by
 obtain⟨m,l⟩:=r.drop d;have n:=fun i=>aw.vp h j i none d;have p1:∀k,lw σ (h.c' j none) k->(gO w p.aY o).heap[k]? =w.heap[k]? :=fun k ⟨i,y,q,hi,f,e⟩=>by
  rw[n]at hi;by_cases aj:i=j;rw[co aj]at hi;cases hi;rw[bs aj]at hi;have:=r.inj i j y x q p hi c f ag aj;rw[e]at this;exact acn
 refine⟨m.frame p1,⟨.refl _,fun _ H I=>(I H).elim,aZ _,by simp[gO],fun k s g=>?_,l.p2,rfl,rfl,rfl⟩⟩;have:p.aY≠k:=fun e=>g ⟨j,x,p,c,ag,e⟩;simp[gO,Bk,this]
theorem aep:∀{jX:List Nat} {h d:aw} {σ:b6} {w:World} {ds:List Deferred},NQ jX h=some d->w5 σ jX=some ds->cZ ρ σ h w->
  ∃w',cZ ρ σ d w'/\jF σ h w σ d w'/\Steps P (lone (yq b a ds k) cs w) (lone (yq b a [] k) cs w')
 |[],h,d,σ,w,ds,hd,c,e=>by
  simp[NQ]at hd;subst hd
  simp[w5]at c;subst c
  exact⟨w,e,.refl _ _ _,.refl _ _⟩
 |j::l,h,d,σ,w,ds,hd,c,e=>by
  simp only[NQ]at hd
  split at hd
  ·rename_i f
   cases au:Nat.blt j eB with
   |false=>rw[au]at hd;simp at hd
   |true=>
    rw[au]at hd
    simp only[eP]at hd
    have g:j<eB:=by simpa using au
    simp only[w5]at c
    split at c
    ·rename_i p y ag i
     cases c
     obtain⟨q,m,s⟩:=e.aY j _ f
     obtain rfl:p=q:=gQ (ag.symm.trans m)
     obtain⟨_,x⟩:=s
     obtain⟨n,o⟩:=e.aj' f ag g (.deferred none)
     obtain⟨w',r,t,u⟩:=aep hd i n
     exact⟨w',r,o.trans t,.head (aJm x) u⟩
    ·cases c
  ·cases hd
theorem azs{f:FuncId}{fn:Func}{body:Code}{ay:Nat}{rs:List sw}{F:ko}(o:P.funcs[f]? =some fn)(A:fn.body=some body)(V:fn.name≠ "runtime.NumGoroutine")(E:fn.ntmps=ay)(dK:ay<=256)(vF:MR P ay fn.results.toList rs) {B:l9->Prop}(bk:B ⟨f,.normal,none⟩)(Z:m4 P ρ ay B body F):nw P ρ f (DI ay rs F):=by
 intro σ args h v t cs w an jx W J;right;have N:(callFunc f cs.toArray).run P w=.ok (.enter f cs.toArray) w:=by simp[callFunc,o,V,A]
 refine⟨N,?_⟩;unfold DI at J;cases q:Nat.ble args ay with
 |false=>rw[q]at J;simp at J
 |true=>
  rw[q]at J;simp only[eP]at J;have M:=hH q;intro c g;have R:Frame.enter P f cs.toArray .normal=fr ⟨f,.normal,none⟩ (cs.toArray++Array.replicate (ay-cs.toArray.size) undef) [] [.code body]:=by simp[Frame.enter,fr,o,A,E]
  rw[R];have e2:Ds P ρ ay σ ⟨xC args 0 bP,h,[]⟩ (cs.toArray++Array.replicate (ay-cs.toArray.size) undef) [] w:=⟨.start jx M dK,W,rfl,an⟩;have D:∀(e:X) (x:gH),(∀id,e≠ .exit id)->F ⟨xC args 0 bP,h,[]⟩=some (e,x)->DG rs x=some (v,t)->
    ∃u w',qT ρ σ h w v t u w'/\Steps P (lone (fr ⟨f,.normal,none⟩ (cs.toArray++Array.replicate (ay-cs.toArray.size) undef) [] [.code body]) (c::g) w) (lone (c.finish u) g w'):=fun e x Y j d=>by
   obtain⟨C,bW,nK,T,n,O,bZ⟩:=Z σ _ e x j ⟨f,.normal,none⟩ bk [] (c::g) _ [] w e2;have Q:∃todo,Steps P (lone (fr ⟨f,.normal,none⟩ (cs.toArray++Array.replicate (ay-cs.toArray.size) undef) [] [.code body]) (c::g) w) (lone (yq ⟨f,.normal,none⟩ bW nK todo) (c::g) T):=by
    cases e with
    |il=>exact⟨[],tj bZ (.one (arN rfl))⟩
    |exit id=>exact(Y id rfl).elim
    |ret=>obtain⟨dF,cp⟩:=bZ;exact⟨.code .ret::dF,tj cp (.one (arQ rfl))⟩
   obtain⟨todo,hz⟩:=Q;unfold DG at d;split at d
   ·rename_i I K;obtain⟨i,s,cr,ej⟩:=aep (P:=P) (b:=⟨f,.normal,none⟩) (a:=bW) (k:=todo) (cs:=c::g) K n.d n.h;split at d
    ·rename_i vs S;simp only[cq,iA]at d;obtain⟨rfl,rfl⟩:=d;obtain⟨r,u1,u2⟩:=ado n.g n.s s vF S;have de:=m6 u1;have U:(fn.results.mapM (La bW):Sem (Array Value)).run P i=.ok r.toArray i:=by rw[aeQ];simp only[ae1];rw[u2];rfl
     have d:∃u,aN ρ C (Hs vs)=some u/\(results fn bW).run P i=.ok u i:=by
      rw[aqO];simp only[eZ];rw[U];simp only[eW,fJ]
      match vs,r,u1,de with
      |[y],[u],u1,_=>obtain⟨z,L,cg⟩:=iT u1;cases cg;exact⟨u,L,ao⟩
      |[],[],u1,_=>exact⟨.tuple #[],by simp[Hs,aN,bY],ao⟩
      |y::mu::l,u::z::m,u1,_=>exact⟨.tuple (u::z::m).toArray,by simp[Hs,aN,u1],ao⟩
     obtain⟨u,G,H⟩:=d;exact⟨u,i,⟨C,G,s,O.trans cr⟩,tj hz (tj ej (.one (step_leave_returned ⟨rfl,rfl,rfl,fn,o,H⟩)))⟩
    cases d
   cases d
  split at J;rename_i x j;exact D .il x (fun id aj=>by cases aj) j J;rename_i x j;exact D .ret x (fun id aj=>by cases aj) j J;cases J
end
end Go.cv
namespace Go.cv
section
variable {P:Program} {ρ:cd}
def YH(esz:Nat):List O->aw->Option O
 |[.dH],_=>vO 0
 |[.slice b off _ e cap],h=>bif Nat.beq e esz then match Jw h b off esz cap with
  |some (c,true)=>vO c
  |_=>none
  else none
 |_,_=>none
variable{o:Oper}{t e:TypeId}
theorem aw5{c:Call}{i:TypeInfo}(h:o.op=.call c)(Q:c.callee=.builtin .cap)(ai:c.argTypes[0]? =some t)(hu:P.underlying t=some (.slice e)):BH P ρ o (YH i.size):=by
 intro σ s q a w v an f l J;rw[Ez h Q]at f;have j:∀(n:Nat) (u:Value),(c.args.map (ez a)).toList=[u]->(Builtin.cap_ c.argTypes o.type #[u]).run P w=.ok (goInt n) w->(execOp (ez a) o).run P w=.ok (.value (.int .i64 (.ofNat n))) w:=fun n u U ab=>by exact an3
 unfold YH at J;split at J;rw[Hl]at J;cases J;obtain⟨x,d,U⟩:=iT f;simp only[aN,cq]at d;subst d;exact⟨_,rfl,j 0 _ U (by simp[Builtin.cap_,ai,hR hu])⟩
 ·rename_i b off n m cap;cases g:Nat.beq m i.size with
  |false=>rw[g]at J;simp at J
  |true=>
   rw[g]at J;obtain rfl:=gx g;simp only[eP]at J;split at J;rename_i tG k;rw[Hl]at J;cases J;obtain⟨x,d,U⟩:=iT f;obtain⟨p,ag,rfl⟩:=Ad d;obtain⟨_,dF⟩:=YG l ag k;have:=dF rfl;exact⟨_,rfl,j tG _ U (by simp[Builtin.cap_,ai,hR hu,←this])⟩;cases J
 cases J
def YY(esz:Nat):List O->aw->Option (O×aw)
 |[d,x],h=>match VB esz h x with
  |none=>none
  |some (n,l)=>match d with
   |.dH=>some (.int .i64 (.ofNat 0),h)
   |.slice b off len e _=>bif Nat.beq e esz then
     (bif Nat.beq (min n len) 0 then some (.int .i64 (.ofNat 0),h)else match h.cR b with
     |some (.cells c vs a true)=>bif Nat.ble (off+min n len*esz) vs.length&&l.all pX&&Nat.blt b eB then
      vW (min n len) fun m=>some (.int .i64 (.ofNat m),h.c' b (some (.cells c (A9 vs off (l.take (min n len*esz))) a true)))else none
     |_=>none)
    else none
   |_=>none
 |_,_=>none
variable{s:TypeId}
theorem axK{c:Call}{f:TypeInfo}(h:o.op=.call c)(Q:c.callee=.builtin .copy)(y:c.argTypes[0]? =some s)(hu:P.underlying s=some (.slice e))(aO:P.info? e=some f):Dh P ρ o (YY f.size):=by
 intro σ vs V a w v W an C j J;rw[Ez h Q]at C;have done:∀(u x t:Value) (w':World),(c.args.map (ez a)).toList=[u,x]->(Builtin.copy_ c.argTypes o.type #[u,x]).run P w=.ok t w'->(execOp (ez a) o).run P w=.ok (.value t) w':=fun u x t w' U ab=>by exact acI
 unfold YY at J;split at J
 ·rename_i d x;split at J;cases J
  ·rename_i n l G;obtain⟨sC,m,q,S,U⟩:=lz C;obtain⟨r,sY,B⟩:=adX (P:=P) j G S;have a0:∀u,(#[u,m]:Array Value)[0]? =some u:=fun _=>rfl;have bW:∀u,(#[u,m]:Array Value)[1]? =some m:=fun _=>rfl;split at J;simp at J;obtain⟨rfl,rfl⟩:=J;simp only[aN,cq]at q;subst q;obtain⟨D,_,g⟩:=B 0 (dx _);refine .inl ⟨_,w,done _ _ (.int .i64 0) w U ?_,σ,rfl,j,.refl _ _ _⟩;simp only[Builtin.copy_,y,a0,bW,eZ,hR hu,eW,r,p3 aO,Nat.min_zero,g,fJ,goInt];rfl
   ·rename_i b off len M cap;cases z:Nat.beq M f.size with
    |false=>rw[z]at J;simp at J
    |true=>
     rw[z]at J;obtain rfl:=gx z;simp only[eP]at J;obtain⟨p,ag,rfl⟩:=Ad q;obtain⟨D,i,g⟩:=B (min n len) (Nat.min_le_left _ _);cases ae:Nat.beq (min n len) 0 with
     |true=>rw[ae]at J;simp at J;obtain⟨rfl,rfl⟩:=J;have E:=gx ae;rw[E]at g i;simp[bY]at i;subst i;refine .inl ⟨_,w,done _ _ (.int .i64 0) w U ?_,σ,rfl,j,.refl _ _ _⟩;simp only[Builtin.copy_,y,a0,bW,eZ,hR hu,eW,r,p3 aO,show Nat.min n len=0 from E,g,fJ,goInt];simp[storeCells]
     |false=>
      rw[ae]at J;simp only[jt]at J;split at J
      ·rename_i Y F X A;cases k:(Nat.ble (off+min n len*f.size) F&&l.all pX&&Nat.blt b eB)with
       |false=>rw[k]at J;simp at J
       |true=>
        rw[k]at J;simp only[eP,Ba,cq,iA]at J;obtain⟨rfl,rfl⟩:=J;simp only[dQ]at k;obtain⟨⟨c1,c2⟩,c3⟩:=k;have c1:=hH c1;have c3:b<eB:=by simpa using c3
        have R:(l.take (min n len*f.size)).all pX=true:=by rw[h6]at c2⊢;exact fun af H=>c2 af (Rq H)
        have Z:min n len*f.size<=n*f.size:=qR _ (Nat.min_le_left _ _);obtain⟨K,w',O,N,T,L⟩:=j.aeG (off:=off) A c3 i bz (Gd R i);obtain rfl:p=K:=gQ (ag.symm.trans O);refine .inl ⟨_,w',done _ _ (.int .i64 (.ofNat (min n len))) w' U ?_,σ,rfl,T,L⟩;have I:(Builtin.firstCells f.size (Nat.min n len) m).run P w=.ok D.toArray w:=g;simp only[Builtin.copy_,y,a0,bW,eZ,hR hu,eW,r,p3 aO,I,fJ,goInt,N P];rfl
      cases J
   cases J
 cases J
def anH(a b:Int):Int:=bif vM a b then b else a
def acl:List O->Option O
 |[.int k a,.int j b]=>bif decide (k=j)then some (.int k (anH a b))else none
 |_=>none
theorem aEd{c:Call}(h:o.op=.call c)(d:c.callee=.builtin .max):mA P ρ o acl:=by
 intro σ s a w v an e J;rw[Ez h d]at e;unfold acl at J;split at J
 ·rename_i k p j q;by_cases b:k=j
  ·subst b;simp at J;subst J;obtain⟨m,l,i,g,f⟩:=lz e;obtain rfl:=oH i;obtain rfl:=oH g;refine⟨_,rfl,S_ h d fun cs=>?_⟩;have aO:c.args.map (ez a)=#[.int k p,.int k q]:=by apply xT;rw[f]
   rw[aO];simp only[builtin,Builtin.max_,List.foldlM_cons,List.foldlM_nil,Builtin.max2,eZ,fJ,eW,anH,Hg];by_cases au:p<q<;>simp[au]
  simp[b]at J
 cases J
end
section
variable {P:Program} {ρ:cd}
abbrev zx:=O×O×Nat
def JS(k:O):List zx->Nat->Option (Option (Nat×O))
 |[],_=>some none
 |e::a,i=>match B4 k e.1 with
  |some true=>some (some (i,e.2.1))
  |some false=>JS k a (i+1)
  |none=>none
theorem arl{σ:b6}{d:TypeDesc}{g:Nat}{x y:O}{i l:Value}{b:Bool}(ai:qK d=some g)(a:aN ρ σ x=some i)(c:aN ρ σ y=some l)(e:ri g x=true)(h:B4 x y=some b):Instr.sameNow d i l=some b:=by
 unfold B4 at h;split at h;rename_i k p j q;by_cases f:k=j;subst f;simp at h;subst h;obtain rfl:=oH a;obtain rfl:=oH c;cases d<;>simp[qK]at ai<;>subst ai<;>simp[ri]at e;simp only[Instr.sameNow,ox,DF];rfl;simp[f]at h;cases h;obtain⟨m,rfl⟩:=tJ a;obtain⟨n,rfl⟩:=tJ c;cases d<;>simp[qK]at ai<;>subst ai<;>simp[ri]at e;simp only[Instr.sameNow,beq_toListBytes,S6 m n];cases h;simp only[aN,cq]at a c;subst a;subst c;cases d<;>simp[qK]at ai<;>subst ai<;>simp[ri]at e;rfl;cases h
theorem ajE{σ:b6}:∀{a:List zx} {b:List MapEntry},tN ρ σ a b->∀{i:Nat} {e:zx},a[i]? =some e->∃m,b[i]? =some m/\S5 ρ σ e m
 |[],[],_,i,e,h=>by simp at h
 |dC::a,f::b,⟨H,I⟩,i,e,h=>by
  cases i with
  |zero=>simp at h;subst h;exact⟨f,ao,H⟩
  |succ i=>simp at h;obtain⟨m,c,d⟩:=ajE I h;exact⟨m,by simpa using c,d⟩
 |[],_::_,h,_,_,_=>h.elim
 |_::_,[],h,_,_,_=>h.elim
theorem N3{σ:b6}{d:TypeDesc}{o:Nat}{k:O}{tG:Value}(ai:qK d=some o)(g:aN ρ σ k=some tG)(l:ri o k=true):∀{a:List zx} {f:List MapEntry} {i:Nat} {r:Option (Nat×O)},tN ρ σ a f->JS k a i=some r->
  match r with
  |none=>Instr.findNow d tG f i=some none
  |some (j,v)=>∃c,Instr.findNow d tG f i=some (some (j,c))/\aN ρ σ v=some c/\∃e,i<=j/\a[j-i]? =some e/\e.2.1=v/\B4 k e.1=some true
 |[],[],i,r,_,h=>by simp[JS]at h;subst h;rfl
 |e::a,m::f,i,r,⟨⟨H,I,B⟩,s⟩,h=>by
  simp only[JS]at h
  split at h
  ·rename_i aO
   cases h
   exact⟨m.val,by simp only[Instr.findNow,arl ai g H l aO],I,e,aZ _,ao,rfl,aO⟩
  ·rename_i aO
   have b:=N3 ai g l (i:=i+1) s h
   have n:=arl ai g H l aO
   cases r with
   |none=>simp only at b⊢;simp only[Instr.findNow,n,b]
   |some q=>
    obtain⟨j,v⟩:=q
    simp only at b⊢
    obtain⟨c,t,w,u,C,x,y,A⟩:=b
    refine⟨c,by simp only[Instr.findNow,n,t],w,u,z,?_,y,A⟩
    have:j-i=(j-(i+1))+1:=z
    rw[this];simpa using x
  ·cases h
 |[],_::_,_,_,h,_=>h.elim
 |_::_,[],_,_,h,_=>h.elim
theorem Vr{w:World}{t:TypeId}{d:TypeDesc}{a:Nat}(hd:P.underlying t=some d)(ai:qK d=some a)(e:Bool)(n:Nat)(v:Value):(Instr.checkKey e (n+1) t v).run P w=.ok () w:=by
 cases d<;>simp[qK]at ai<;>simp[Instr.checkKey,hR hd]
theorem Vs{w:World}{t:TypeId}{d:TypeDesc}(hd:P.underlying t=some d){k:Value}{a:List MapEntry}{r:Option (Nat×Value)}(h:Instr.findNow d k a 0=some r):(Instr.findKey t k a).run P w=.ok r w:=by
 simp[Instr.findKey,hR hd,h]
variable{w:World}
theorem cZ.map{σ:b6}{h:aw}(r:cZ ρ σ h w){b:Nat}{c:List zx}{tG:Nat}(A:h.cR b=some (.map c tG)):∃p a,σ b=some p/\p.del=0/\w.heap[p.aY]? =some (.map a tG)/\tN ρ σ c a.toList/\p.aY<w.heap.size:=by
 obtain⟨p,ag,au,H,a,I,d⟩:=r.lt A;exact⟨p,a,ag,H,I,d,au⟩
def KQ(ok:Bool)(v:O)(a:Bool):O:=bif ok then .tup [v,.bool a]else v
def acd(a:Nat)(zero:O)(ok:Bool):List O->aw->Option O
 |[.Eu,k],_=>bif ri a k then some (KQ ok zero false)else none
 |[.map b,k],h=>bif ri a k then match h.cR b with
  |some (.map c _)=>match JS k c 0 with
   |some (some (_,v))=>some (KQ ok v true)
   |some none=>some (KQ ok zero false)
   |none=>none
  |_=>none
  else none
 |_,_=>none
variable{ok:Bool}
theorem YV{σ:b6}{a:Bool}{v:O}{c:Value}(h:aN ρ σ v=some c):aN ρ σ (KQ ok v a)=some (if ok=true then .tuple #[c,.bool a]else c):=by
 cases ok;simpa[KQ]using h;simp[KQ,aN,bY,h]
theorem aD0{o:Oper}{t k e:TypeId}{x y:Operand}{ok:Bool}{kd:TypeDesc}{z:Nat}{K:TypeInfo}{af:Value}{B:O}(h:o.op=.lookup t x y ok)(hu:P.underlying t=some (.map k e))(n:P.underlying k=some kd)(ai:qK kd=some z)(aO:P.info? e=some K)(M:K.zero=some af)(L:ofValue af=some B): BH P ρ o (acd z B ok):=by
 intro σ s X a w v an H N J;have I:(zeroValue e).run P w=.ok af w:=by simp[zeroValue,typeInfo,aO,M]
 have F:aN ρ σ B=some af:=apv L;unfold acd at J;split at J
 ·rename_i C;cases i:ri z C with
  |false=>rw[i]at J;simp at J
  |true=>
   rw[i]at J;simp only[eP,cq]at J;subst J;obtain⟨c,d,l,hd,g⟩:=lz H;simp[fW,h,Op.operands]at g;simp only[aN,cq]at l;subst l;refine⟨_,YV F,?_⟩;have m:(Instr.findKey k d []).run P w=.ok none w:=Vs n rfl;have D:(Instr.lookup t (.map none) d ok).run P w=.ok (if ok=true then .tuple #[af,.bool false]else af) w:=by simp only[Instr.lookup,eZ,hR hu,eW,fJ,Vr n ai _ 9999];rw[m];simp only[eW,eZ,I,fJ]
   simp only[execOp,h,g.1,g.2,eZ,D,eW,fJ]
 ·rename_i b C;cases i:ri z C with
  |false=>rw[i]at J;simp at J
  |true=>
   rw[i]at J;simp only[eP]at J;split at J
   ·rename_i Y W A;obtain⟨c,d,l,hd,g⟩:=lz H;simp[fW,h,Op.operands]at g;simp only[aN,iz]at l;obtain⟨p,ag,rfl⟩:=l;obtain⟨Q,T,S,_,V,G,_⟩:=N.map A;obtain rfl:p=Q:=gQ (ag.symm.trans S);have U:=Vu (P:=P) V (by intro c e f;simp);have base:∀(r:Option (Nat×Value)),Instr.findNow kd d T.toList 0=some r->(Instr.lookup t (.map (some p.aY)) d ok).run P w=(match r with|some (_,v)=>.ok (if ok=true then .tuple #[v,.bool true]else v) w|none=>.ok (if ok=true then .tuple #[af,.bool false]else af) w):=fun r D=>by
     simp only[Instr.lookup,eZ,hR hu,eW,U,fJ,Vr n ai _ 9999,Vs n D];cases r with
     |none=>simp only[eZ,I,eW,fJ]
     |some q=>obtain⟨_,_⟩:=q;simp only[eZ,fJ,eW]
    split at J
    ·rename_i j u m;cases J;obtain⟨Z,E,R,_⟩:=N3 ai hd i G m;refine⟨_,YV R,?_⟩;simp only[execOp,h,g.1,g.2,eZ,base _ E,eW,fJ]
    ·rename_i m;cases J;have E:=N3 ai hd i G m;refine⟨_,YV F,?_⟩;simp only[execOp,h,g.1,g.2,eZ,base _ E,eW,fJ]
    ·cases J
   ·cases J
 ·cases J
def ach:List O->Option eC
 |[]=>some (.map [] 0)
 |_=>none
def ack(_:List O)(b:Nat):O:=.map b
theorem aD'{o:Oper}{t:TypeId}(h:o.op=.makeMap t none):IK P ρ o ach ack:=by
 intro σ s a w x b an d c A;unfold ach at c;split at c
 ·cases c;refine⟨.map #[] 0,0,w.drawn,.map (some w),?_,by simp[ack,aN,dZ],rfl,#[],rfl,g'⟩;simp[execOp,h,Instr.makeMap]
 ·cases c
def acj(d:Nat):List O->aw->Option (O×aw)
 |[.map b,k,v],h=>bif ri d k&&Nat.blt b eB then match h.cR b with
  |some (.map c a)=>match JS k c 0 with
   |some (some (i,_))=>some (ql,h.c' b (some (.map (c.modify i fun e=>(k,v,e.2.2)) a)))
   |some none=>some (ql,h.c' b (some (.map (c++[(k,v,a)]) (a+1))))
   |none=>none
  |_=>none
  else none
 |_,_=>none
theorem ajC{σ:b6}:∀{c a:List zx} {d b:List MapEntry},tN ρ σ c d->tN ρ σ a b->tN ρ σ (c++a) (d++b)
 |[],_,[],_,_,h=>h
 |_::_,_,_::_,_,⟨H,I⟩,h=>⟨H,ajC I h⟩
 |[],_,_::_,_,h,_=>h.elim
 |_::_,_,[],_,h,_=>h.elim
theorem ajF{σ:b6}{f:zx->zx}{g:MapEntry->MapEntry}:∀{a:List zx} {b:List MapEntry} {i:Nat},tN ρ σ a b->(∀e m,a[i]? =some e->b[i]? =some m->S5 ρ σ e m->S5 ρ σ (f e) (g m))->tN ρ σ (a.modify i f) (b.modify i g)
 |[],[],i,_,_=>by simp[tN]
 |e::a,m::b,0,⟨H,I⟩,c=>by simp only[List.modify_zero_cons];exact⟨c e m ao ao H,I⟩
 |e::a,m::b,i+1,⟨H,I⟩,c=>by
  simp only[List.modify_succ_cons]
  exact⟨H,ajF I fun j l d k=>c j l (by simpa using d) (by simpa using k)⟩
 |[],_::_,_,h,_=>h.elim
 |_::_,[],_,h,_=>h.elim
theorem aH'{σ:b6}{x y:O}{d e:Value}(a:aN ρ σ x=some d)(b:aN ρ σ y=some e)(h:B4 x y=some true)(n:Nat):Instr.sameBits (n+1) e d=true:=by
 unfold B4 at h;split at h;rename_i k p j q;by_cases c:k=j;subst c;simp[DF]at h;subst h;obtain rfl:=oH a;obtain rfl:=oH b;simp[Instr.sameBits];simp[c]at h;simp[VG]at h;subst h;obtain⟨f,rfl⟩:=tJ a;obtain⟨g,rfl⟩:=tJ b;simp only[Instr.sameBits];rw[beq_toListBytes,S6 f g,VG];simp;simp at h;subst h;simp only[aN,cq]at a b;subst a;subst b;simp[Instr.sameBits];cases h
theorem aEb{o:Oper}{t k e:TypeId}{x y af:Operand}{kd:TypeDesc}{H:Nat}(h:o.op=.mapUpdate t x y af∨o.op=.insert t x y af)(hu:P.underlying t=some (.map k e))(q:P.underlying k=some kd)(ai:qK kd=some H):Dh P ρ o (acj H):=by
 intro σ s F a w v bc an M N J;have ih:fW o a=[ez a x,ez a y,ez a af]:=by rcases h with h|h<;>simp[fW,h,Op.operands]
 rw[ih]at M;unfold acj at J;split at J
 ·rename_i b W u;cases r:(ri H W&&Nat.blt b eB)with
  |false=>rw[r]at J;simp at J
  |true=>
   rw[r]at J;simp only[eP]at J;simp only[dQ]at r;obtain⟨T,D⟩:=r;have D:b<eB:=by simpa using D
   split at J
   ·rename_i bJ B A;obtain⟨c,d,f,K,hd,O,L⟩:=YS M;simp only[p7,Bt]at L;obtain⟨bZ,cp,ix⟩:=L;simp only[aN,iz]at K;obtain⟨p,ag,rfl⟩:=K;obtain⟨bR,z,ev,Z,I,l,au⟩:=N.map A;obtain rfl:p=bR:=gQ (ag.symm.trans ev);have S:=Vu (P:=P) I (by intro c e f;simp);have R:∀(j:List zx) (n:Array MapEntry) (g:Nat),tN ρ σ j n.toList->(Instr.mapUpdate t (.map (some p.aY)) d f).run P w=.ok () (gO w p.aY (.map n g))->
      Fz P o a w fun c w'=>∃G,aN ρ G ql=some c/\cZ ρ G (F.c' b (some (.map j g))) w'/\jF σ F w G (F.c' b (some (.map j g))) w':=fun j n g aO ab=>by
     obtain⟨Y,ba⟩:=N.put (x:=.map j g) (o:=.map n g) A ag D au ⟨Z,n,rfl,aO⟩;refine .inr (.inl ⟨_,?_,σ,NB ρ σ,Y,ba⟩);rcases h with h|h<;>simp only[execOp,h,bZ,cp,ix,eZ,ab,eW,fJ]
    split at J
    ·rename_i i hm C;cases J;obtain⟨w4,E,cr,dC,ej,Q,l2,ll⟩:=N3 ai hd T l C;simp only[afn]at Q;obtain⟨ik,yZ,U⟩:=ajE l Q;have V:z[i]? =some ik:=by simpa using yZ
     have X:(Instr.keyThatStays (((z[i]?).map (·.key)).getD d) d).run P w=.ok d w:=by rw[V];simp only[n6,LY,Instr.keyThatStays];rw[co (aH' hd U.1 ll 9999)];rfl
     refine R _ (z.modify i fun e=>{e with key:=d,val:=f}) B ?_ ?_
     ·rw[Array.toList_modify];refine ajF l fun e m cn dw er=>⟨hd,O,er.2.2⟩
     ·simp only[Instr.mapUpdate,eZ,hR hu,eW,S,Vr q ai _ 9999,Vs q E,X,Ld (P:=P) I (by intro c e f;simp)]
    ·rename_i C;cases J;have E:=N3 ai hd T l C;refine R _ (z.push {key:=d,val:=f,born:=B}) (B+1) ?_ ?_
     ·rw[Array.toList_push];exact ajC l ⟨⟨hd,O,rfl⟩,g'⟩
     ·simp only[Instr.mapUpdate,eZ,hR hu,eW,S,Vr q ai _ 9999,Vs q E,Ld (P:=P) I (by intro c e f;simp)]
    ·cases J
   ·cases J
 ·cases J
end
section
variable {P:Program} {ρ:cd}
theorem arW{σ:b6}{s:List Nat}(h:kI s):aN ρ σ (.str s)=some (.string (eU s)):=by
 have:s.all (fun n=>decide (n<256))=true:=by simpa[kI]using h
 simp only[aN,this,ox]
def IR:List O->Option (List Nat)
 |[]=>some []
 |.int .u8 (.ofNat m)::l=>bif Nat.blt m 256 then(match IR l with
  |some r=>some (m::r)
  |none=>none)else none
 |_=>none
theorem ad3{σ:b6}:∀{l:List O} {cs:List Value} {s:List Nat},IR l=some s->bY ρ σ l=some cs->kI s/\s.length=l.length/\cs=(s.map Int.ofNat).map (Value.int .u8)
 |[],cs,s,h,a=>by
  simp[IR]at h;subst h
  simp[bY]at a;subst a
  exact⟨by simp[kI],rfl,rfl⟩
 |v::l,cs,s,h,a=>by
  unfold IR at h
  split at h
  ·cases h
   rename_i e;cases e
  ·rename_i m o e
   cases e
   cases b:Nat.blt m 256 with
   |false=>rw[b]at h;simp at h
   |true=>
    rw[b]at h
    simp only[eP]at h
    split at h
    ·rename_i r g
     cases h
     obtain⟨c,n,H,I,i⟩:=qo a
     obtain rfl:=oH H
     obtain⟨d,j,k⟩:=ad3 g I
     have f:m<256:=by simpa using b
     refine⟨?_,by simp[j],by rw[i,k];rfl⟩
     simp only[kI,List.all_cons,dQ]at d⊢
     exact⟨by simpa using f,d⟩
    ·cases h
  ·cases h
theorem ajY:∀(s:List Nat) (a:ByteArray),(s.map Int.ofNat).foldl (fun r n=>r.push (UInt8.ofNat n.toNat)) a=⟨a.data++(s.map UInt8.ofNat).toArray⟩
 |[],a=>by simp
 |m::s,a=>by
  simp only[qO,LN]
  rw[ajY s]
  apply Ly
  simp[ByteArray.push]
def Yy:List O->aw->Option O
 |[.dH],_=>some (.str [])
 |[.slice b o n _ _],h=>bif Nat.beq n 0 then some (.str [])else match h.cR b with
  |some (.cells _ vs _ _)=>bif Nat.ble (o+n) vs.length then(match IR ((vs.drop o).take n)with
   |some s=>some (.str s)
   |none=>none)else none
  |_=>none
 |_,_=>none
theorem awW{o:Oper}{s d e:TypeId}{x:Operand}(h:o.op=.convert s d x)(y:P.underlying s=some (.slice e))(aO:P.underlying e=some (.int .u8))(hd:P.underlying d=some .string):BH P ρ o Yy:=by
 intro σ l N a w v an q D J;unfold Yy at J;split at J
 ·cases J;obtain⟨c,i,g⟩:=iT q;simp[fW,h,Op.operands]at g;simp only[aN,cq]at i;subst i;refine⟨.string (eU []),rfl,?_⟩;simp only[execOp,h,g,eZ,asT w s d e _ _ _ y aO hd];rfl
 ·rename_i b off n esz cap;obtain⟨c,i,g⟩:=iT q;simp[fW,h,Op.operands]at g;obtain⟨f,G,rfl⟩:=Ad i;have u:∀(al:List Nat),kI al->(loadCells ⟨f.aY,f.del+off,none⟩ n).run P w=.ok ((al.map Int.ofNat).map (Value.int .u8)).toArray w->
    ∃c,aN ρ σ (.str al)=some c/\(execOp (ez a) o).run P w=.ok (.value c) w:=fun al ok m=>by
   refine⟨.string (eU al),arW ok,?_⟩;have r:=run_bytesToString w ⟨f.aY,f.del+off,none⟩ n (jv f off esz cap) _ m;rw[ajY]at r;simp only[execOp,h,g,eZ,asT w s d e _ _ _ y aO hd,r,eW,fJ];congr 2;simp[eU]
  cases ae:Nat.beq n 0 with
  |true=>rw[ae]at J;simp only[eP,cq]at J;subst J;obtain rfl:=gx ae;exact u [] (by simp[kI]) (by simp[loadCells,loadCellsFrom])
  |false=>
   rw[ae]at J;simp only[jt]at J;split at J
   ·rename_i elem vs T wr A;cases k:Nat.ble (off+n) vs.length with
    |false=>rw[k]at J;simp at J
    |true=>
     rw[k]at J;simp only[eP]at J;have k:=hH k;split at J
     ·rename_i al E;cases J;obtain⟨p,arr,bb,cs,ag,H,I,M,L,t,K,R,S⟩:=D.cells A;obtain rfl:p=f:=gQ (ag.symm.trans G);have Q:=m6 t;obtain⟨C,O,F⟩:=ad3 E (tI n (vj off t));have m:=Qq (P:=P) (w:=w) p.aY (p.del+off) n ((cs.drop off).take n) bz fun j B=>by rw[kN,K (off+j) z];simp[oZ,B]
      refine u al C ?_;rw[m,F]
     ·cases J
   ·cases J
 ·cases J
theorem aH8{w:World}{r:Nat}{a:TypeId×Nat}(h:w.shape? r=some a):(viewAt r).run P w=.ok none w:=by
 simp[viewAt,h]
theorem aH5{w:World}{r n:Nat}{e:TypeId}(h:w.shape? r=some (e,n)):(cellsIn r).run P w=.ok (some n) w:=by
 simp[cellsIn,h]
theorem arh{w:World}{a:Addr}{b:TypeId×Nat}(h:w.shape? a.block=some b):(Conv.seenAt a).run P w=.ok a w:=by
 simp[Conv.seenAt,aH8 h]
def aee:List O->aw->Option O
 |[.rn],_=>some .rn
 |[.iZ b o],h=>match h.cR b with
  |some (.cells _ vs _ _)=>bif Nat.blt o vs.length then some (.iZ b o)else none
  |_=>none
 |_,_=>none
theorem aKo{o:Oper}{s d t:TypeId}{x:Operand}{e:TypeInfo}(h:o.op=.convert s d x)(mO:P.underlying s=some (.pointer t))(hd:P.underlying d=some .unsafePointer)(ai:P.info? t=some e)(f:e.size≠0):BH P ρ o aee:=by
 intro σ l B a w v an Y j J;unfold aee at J;split at J
 ·cases J;exact an_
 ·rename_i b off;split at J
  ·rename_i elem vs F wr A;cases au:Nat.blt off vs.length with
   |false=>rw[au]at J;simp at J
   |true=>
    rw[au]at J;simp only[eP,cq]at J;subst J;have au:off<vs.length:=by simpa using au
    obtain⟨c,Q,U⟩:=iT Y;simp[fW,h,Op.operands]at U;obtain⟨k,m,rfl⟩:=w3 Q;obtain⟨p,arr,bb,cs,ag,H,I,u,r,y,D,C,E⟩:=j.cells A;obtain rfl:p=k:=gQ (ag.symm.trans m);refine⟨_,Q,?_⟩;have g:w.shape? p.aY=some (elem,arr.size):=by simp[World.shape?,H]
    have n:=arh (P:=P) (a:=⟨p.aY,p.del+off,none⟩) g;have i:=aH5 (P:=P) g;have q:¬(p.del+off≥arr.size):=z;simp only[execOp,h,U,convert,hR mO,hR hd,eZ,eW,Conv.unsafePointer,n,i,p3 ai,q,f,fJ];simp[f]
  ·cases J
 ·cases J
def acZ(u lJ:Nat):List O->aw->Option O
 |[.rn],_=>some .rn
 |[.iZ b o],h=>match h.cR b with
  |some (.cells e vs true _)=>bif Nat.beq e u&&Nat.beq (Nat.mod o lJ) 0&&Nat.ble (o+lJ) vs.length then some (.iZ b o)else none
  |_=>none
 |_,_=>none
variable{u:TypeId}{n:Nat}
theorem aDR{lJ off:Nat}(a:P.cellsOf u=lJ)(b:lJ≠0)(ae:off%lJ=0)(d:off+lJ<=n):liesAt P P.depth u (n/lJ) off u 1=true:=by
 have hd:P.depth=(2*(P.types.size+Made.depth)+1)+1:=rfl;rw[hd];simp only[liesAt,Q4];left;rw[hd];have:off/lJ+1<=n/lJ:=by have:=as' (c:=lJ) d;rw[Nat.add_div_right _ z]at this;exact this
 simp[rowAt,a,b,ae,this,sameLayout]
theorem aFw{o:Oper}{s d u:TypeId}{x:Operand}{e:TypeInfo}(h:o.op=.convert s d x)(mO:P.underlying s=some .unsafePointer)(hd:P.underlying d=some (.pointer u))(hu:P.info? u=some e)(n:e.size≠0):BH P ρ o (acZ u e.size):=by
 intro σ l E a w v an Y q J;unfold acZ at J;split at J
 ·cases J;exact an_
 ·rename_i b off;split at J
  ·rename_i elem vs wr A;cases f:(Nat.beq elem u&&Nat.beq (Nat.mod off e.size) 0&&Nat.ble (off+e.size) vs.length)with
   |false=>rw[f]at J;simp at J
   |true=>
    rw[f]at J;simp only[eP,cq]at J;subst J;simp only[dQ]at f;obtain⟨⟨aj,g⟩,i⟩:=f;obtain rfl:=gx aj;have g:off%e.size=0:=gx g;have i:=hH i;obtain⟨c,Q,U⟩:=iT Y;simp[fW,h,Op.operands]at U;obtain⟨r,y,rfl⟩:=w3 Q;obtain⟨p,arr,bb,cs,ag,H,I,C,m,D,K,G,L⟩:=q.cells A;obtain rfl:p=r:=gQ (ag.symm.trans y);obtain⟨F,t⟩:=m rfl;refine⟨_,Q,?_⟩;have k:w.shape? p.aY=some (elem,arr.size):=by simp[World.shape?,H]
    have B:=arh (P:=P) (a:=⟨p.aY,p.del+off,none⟩) k;have j:P.cellsOf elem=e.size:=by simp[Program.cellsOf,hu]
    have J:(variablesAt ⟨p.aY,p.del+off,none⟩ elem 1).run P w=.ok true w:=by simp only[variablesAt,eZ,Fo,eW,run_shape,k,fJ,j];rw[aDR j n (by rw[t];simpa using g) z]
    simp only[execOp,h,U,convert,hR mO,hR hd,eZ,eW,Conv.unsafePointer,B,p3 hu,J,fJ];simp
  ·cases J
 ·cases J
def adP:List O->aw->Option O
 |[.dH],_=>some .rn
 |[.slice b o n esz none],h=>match h.cR b with
  |some (.cells _ vs _ _)=>bif Nat.ble (o+esz) vs.length&&Nat.blt 0 esz then some (.iZ b o)else none
  |_=>none
 |_,_=>none
theorem aIP{o:Oper}{c:Call}(h:o.op=.call c)(j:c.callee=.builtin .unsafeSliceData):BH P ρ o adP:=by
 intro σ l C a w v an g m J;rw[Ez h j]at g;have done:∀(u r:Value),(c.args.map (ez a)).toList=[u]->(Builtin.unsafeSliceData_ c.argTypes o.type #[u]).run P w=.ok r w->(execOp (ez a) o).run P w=.ok (.value r) w:=fun u r d k=>by
  refine S_ h j fun cs=>?_;have aO:c.args.map (ez a)=#[u]:=by apply xT;rw[d]
  rw[aO];simp only[builtin,eZ,k,eW,fJ]
 unfold adP at J;split at J
 ·cases J;obtain⟨t,f,d⟩:=iT g;simp only[aN,cq]at f;subst f;exact⟨_,rfl,done _ _ d (Lib.run_unsafeSliceData_nil w _ _ _ _)⟩
 ·rename_i b off n esz;split at J
  ·rename_i elem vs G wr A;cases e:(Nat.ble (off+esz) vs.length&&Nat.blt 0 esz)with
   |false=>rw[e]at J;simp at J
   |true=>
    rw[e]at J;simp only[eP,cq]at J;subst J;simp only[dQ]at e;obtain⟨aj,i⟩:=e;have aj:=hH aj;have i:0<esz:=by simpa using i
    obtain⟨t,f,d⟩:=iT g;obtain⟨q,s,rfl⟩:=Ad f;obtain⟨p,arr,bb,cs,ag,H,I,y,x,B,E,D,F⟩:=m.cells A;obtain rfl:p=q:=gQ (ag.symm.trans s);refine⟨.pointer (some ⟨p.aY,p.del+off,none⟩),by simp[aN,ag],done _ _ d (Lib.run_unsafeSliceData_row w _ _ _ _ _ ?_)⟩;simp only[jv];have:1<=(p.tot-off)/esz:=(ata i).2 z;omega
  ·cases J
 ·cases J
def aen(e:Nat):List O->aw->Option (O×aw)
 |[.rn,.int .i64 (.ofNat 0)],h=>some (.str [],h)
 |[.iZ b o,.int .i64 (.ofNat n)],h=>match h.cR b with
  |some (.cells a vs c wr)=>bif Nat.beq a e&&Nat.blt 0 n&&Nat.ble (o+n) vs.length&&Nat.blt b eB&&Nat.blt n 9223372036854775807 then(match IR ((vs.drop o).take n)with
   |some s=>some (.str s,h.c' b (some (.cells a vs c false)))
   |none=>none)else none
  |_=>none
 |_,_=>none
theorem azq{w:World}{r o n:Nat}{arr:Array Value}{elem:TypeId}{bb:Nat×Nat}(h:w.heap[r]? =some (.cells arr elem bb))(b:n≠0):∃a,w.freeze ⟨r,o,none⟩ n=gO w r (.cells arr elem a):=by
 obtain⟨eh,hi⟩:=bb;refine⟨if eh==hi then(o,o+n)else(min eh o,max hi (o+n)),?_⟩;unfold World.freeze gO;rw[bs b];congr 1;apply Q0;intro i;rw[V3,Bk];have au:r<w.heap.size:=(g6.1 h).1;by_cases e:r=i
 ·subst e;simp only[ox,h,n6,au]
 ·simp[e]
theorem aDQ{e:TypeId}(a:P.cellsOf e=1)(count off n:Nat)(b:off+n<=count):liesAt P P.depth e count off e n=true:=by
 have hd:P.depth=(2*(P.types.size+Made.depth)+1)+1:=rfl;rw[hd];simp only[liesAt,Q4];left;rw[hd];simp[rowAt,a,b,sameLayout,Nat.mod_one]
theorem aLn{o:Oper}{c:Call}{y e:TypeId}{K:TypeInfo}(h:o.op=.call c)(Q:c.callee=.builtin .unsafeString)(M:c.argTypes[0]? =some y)(ev:P.underlying y=some (.pointer e))(V:P.info? e=some K)(T:K.size=1):Dh P ρ o (aen e):=by
 intro σ l b9 a w v bc an k s J;rw[Ez h Q]at k;have C:IntKind.i64.max=9223372036854775807:=rfl;have done:∀(u x r:Value) (w':World),(c.args.map (ez a)).toList=[u,x]->(Builtin.unsafeString_ c.argTypes o.type #[u,x]).run P w=.ok r w'->(execOp (ez a) o).run P w=.ok (.value r) w':=fun u x r w' U ab=>by exact acI
 unfold aen at J;split at J
 ·simp only[cq,iA]at J;obtain⟨rfl,rfl⟩:=J;obtain⟨iU,pd,g,B,U⟩:=lz k;simp only[aN,cq]at g;subst g;obtain rfl:=oH B;refine .inl ⟨.string .empty,w,done _ _ _ _ U ?_,σ,?_,s,.refl _ _ _⟩
  ·change(asInt (.int .i64 (Int.ofNat 0)) >>= _:Sem Value).run P w=_;simp[asInt,asIntOf,C,M]
  ·rfl
 ·rename_i b off n;split at J
  ·rename_i d vs kj wr A;cases f:(Nat.beq d e&&Nat.blt 0 n&&Nat.ble (off+n) vs.length&&Nat.blt b eB&&Nat.blt n 9223372036854775807)with
   |false=>rw[f]at J;simp at J
   |true=>
    rw[f]at J;simp only[eP]at J;simp only[dQ]at f;obtain⟨⟨⟨⟨aj,E⟩,L⟩,t⟩,O⟩:=f;obtain rfl:=gx aj;have E:0<n:=by simpa using E
    have L:=hH L;have t:b<eB:=by simpa using t
    have O:n<9223372036854775807:=by simpa using O
    split at J
    ·rename_i al e2;simp only[cq,iA]at J;obtain⟨rfl,rfl⟩:=J;obtain⟨iU,pd,g,B,U⟩:=lz k;obtain⟨bR,h0,rfl⟩:=w3 g;obtain rfl:=oH B;obtain⟨p,arr,bb,cs,ag,H,I,ah,X,q,fM,e8,ff⟩:=s.cells A;obtain rfl:p=bR:=gQ (ag.symm.trans h0);have de:=m6 q;obtain⟨G,cr,ej⟩:=ad3 e2 (tI n (vj off q));have F:al.length=n:=by rw[cr];simp;omega
     obtain⟨D,vx⟩:=azq (o:=p.del+off) H (show n≠0 by omega);have mg:p.aY<w.heap.size:=(g6.1 H).1;obtain⟨Y,ba⟩:=s.put (x:=.cells d vs kj false) (o:=.cells arr d D) A ag t mg ⟨arr,D,rfl,I,ah,X,⟨cs,q,e8⟩,fun h=>by cases h⟩;refine .inl ⟨.string (eU al),_,done _ _ _ _ U ?_,σ,arW G,Y,ba⟩;have N:P.cellsOf d=1:=by simp[Program.cellsOf,V,T]
     have nh:w.shape? p.aY=some (d,arr.size):=by simp[World.shape?,H]
     have W:(variablesAt ⟨p.aY,p.del+off,none⟩ d n).run P w=.ok true w:=by simp only[variablesAt,eZ,Fo,eW,run_shape,nh,fJ,N,Nat.div_one];rw[aDQ N _ _ _ z]
     have R:=Lib.run_loadBytes (P:=P) w (al.map UInt8.ofNat) ⟨p.aY,p.del+off,none⟩ .empty (fun j x i=>by
      rw[zW,kN]
      have Z:j<n:=by
       have:=(k2.1 i).1
       simpa[F]using this
      rw[fM (off+j) z]
      have:((cs.drop off).take n)[j]? =cs[off+j]? :=by simp[oZ,Z]
      rw[←this,ej]
      simp only[n4,iz]at i
      obtain⟨m,S,rfl⟩:=i
      simp only[n4,S,n6]
      have:m<256:=by
       have:=h6.1 G m (CY S)
       simpa using this
      congr 1
      simp[Bs this])
     rw[IC,F]at R;have q5:(elemOf y).run P w=.ok d w:=by simp[elemOf,hR ev]
     have b5:¬((n:Int)<0):=z;have eK:¬((n:Int)>9223372036854775807):=z;have g0:¬((n:Int)=0):=z;change(asInt (.int .i64 (Int.ofNat n)) >>= _:Sem Value).run P w=_;simp only[asInt,asIntOf,eZ,fJ,eW,M,C,Fr,b5,eK,g0,pz,q5,Rj,W,ox,R,run_freeze,vx];congr 2;simp[eU]
    ·cases J
  ·cases J
 ·cases J
end
end Go.cv
namespace Go.cv
open Go.Proofs.Tryz
def qe(P:Program)(f:FuncId)(e:Array Value->Sem Value):Prop:=∀args w,(callFunc f args).run P w=((e args).run P w).andThen fun v w'=>.ok (.value v) w'
section
variable {P:Program} {ρ:cd}
variable{f:FuncId}
theorem qe.hP{fn:Func}{e:Array Value->Sem Value}(c:P.funcs[f]? =some fn)(a:(fn.name== "runtime.NumGoroutine")=false)(A:fn.body.isNone=true)(b:Extern.findNext fn=none)(aO:Extern.find fn=some e):qe P f e:=
 fun args w=>run_callFunc_extern c a A b aO args w
theorem qe.fn{e:Array Value->Sem Value}(h:qe P f e){F:List O->aw->Option (O×aw)} (i:∀σ args a v b cs w,kA P σ->bY ρ σ args=some cs->cZ ρ σ a w->F args a=some (v,b)->∃c w',(e cs.toArray).run P w=.ok c w'/\qT ρ σ a w v b c w'):nw P ρ f F:=by
 intro σ args a v b cs w an d g J;obtain⟨c,w',H,I⟩:=i σ args a v b cs w an d g J;exact .inl ⟨c,w',by rw[h cs.toArray w,H];rfl,I⟩
theorem qe.pure{e:Array Value->Sem Value}(h:qe P f e){F:List O->Option O}
  (j:∀σ args v cs w,bY ρ σ args=some cs->F args=some v->∃c,(e cs.toArray).run P w=.ok c w/\aN ρ σ v=some c):nw P ρ f (fun a b=>match F a with|some v=>some (v,b)|none=>none):=
 h.fn fun σ args b v k cs w an d i J=>by
  split at J
  ·rename_i l g
   simp only[cq,iA]at J
   obtain⟨rfl,rfl⟩:=J
   obtain⟨c,H,I⟩:=j σ args _ cs w d g
   exact⟨c,w,H,σ,I,i,.refl _ _ _⟩
  ·cases J
def adC:List O->Option O
 |[x]=>some x
 |_=>none
theorem aFg(h:qe P f Extern.AbiNoEscape.same):nw P ρ f (fun a d=>match adC a with|some v=>some (v,d)|none=>none):=
 h.pure fun σ args v cs w b J=>by
  unfold adC at J
  split at J
  ·cases J
   obtain⟨x,c,rfl⟩:=iT b
   exact⟨x,rfl,c⟩
  ·cases J
def Pq(c:Nat):List Nat->Nat->Int
 |[],_=> -1
 |b::l,i=>bif Nat.beq b c then .ofNat i else Pq c l (i+1)
variable{b:Nat}
theorem asl{a:Nat}(aH:a<256)(A:b<256):(UInt8.ofNat a==UInt8.ofNat b)=Nat.beq a b:=by
 by_cases h:a=b;subst h;simp;rw[M' h,lp];intro e;have:=hU UInt8.toNat e;simp[Bs aH,Bs A]at this;exact h this
theorem amK{c:Nat}(a:c<256):∀(s:List Nat) (i:Nat),kI s->Pq c s i=if Lib.indexByte (s.map UInt8.ofNat) (UInt8.ofNat c)= -1 then-1 else Lib.indexByte (s.map UInt8.ofNat) (UInt8.ofNat c)+i
 |[],i,_=>by simp[Pq,Lib.indexByte]
 |b::s,i,h=>by
  obtain⟨H,I⟩:=P8 h
  simp only[Pq,qO,Lib.indexByte,asl H a]
  cases A:Nat.beq b c with
  |true=>simp
  |false=>
   simp only[jt,qM,pz]
   rw[amK a s (i+1) I]
   have:=Lib.indexByte_ge (s.map UInt8.ofNat) (UInt8.ofNat c)
   by_cases e:Lib.indexByte (s.map UInt8.ofNat) (UInt8.ofNat c)= -1
   ·simp[e]
   ·have d:(Lib.indexByte (s.map UInt8.ofNat) (UInt8.ofNat c)== -1)=false:=by simpa using e
    rw[bs e,d]
    simp only[qM,pz]
    rw[bs z]
    omega
def abO:List O->Option O
 |[.str s,.int .u8 (.ofNat c)]=>bif Nat.blt c 256 then QB (Pq c s 0) fun n=>some (.int .i64 n)else none
 |_=>none
theorem air(s:List Nat):(eU s).data.toList=s.map UInt8.ofNat:=by simp[eU]
theorem aCH(h:qe P f Extern.BytealgIndexByte.indexByte):nw P ρ f (fun a j=>match abO a with|some v=>some (v,j)|none=>none):=
 h.pure fun σ args v cs w d J=>by
  unfold abO at J
  split at J
  ·rename_i s c
   cases b:Nat.blt c 256 with
   |false=>rw[b]at J;simp at J
   |true=>
    rw[b]at J
    simp only[eP,ad4,cq]at J
    subst J
    have k:c<256:=by simpa using b
    obtain⟨x,y,g,i,rfl⟩:=lz d
    obtain⟨ok,rfl⟩:=tJ g
    obtain rfl:=oH i
    refine⟨_,Lib.run_indexByteString _ _ _,?_⟩
    rw[amK k s 0 ok,air]
    simp only[aN,Fr,Rj,Nat.toUInt8]
    congr 2
    split
    ·rename_i e;rw[e]
    ·simp
  ·cases J
def Jz(c:Nat):List Nat->Nat->Nat
 |[],n=>n
 |b::l,n=>bif Nat.beq b c then Jz c l (n+1)else Jz c l n
theorem YP{c:Nat}(a:c<256):∀(s:List Nat) (n:Nat),kI s->Jz c s n=n+Lib.countByte (s.map UInt8.ofNat) (UInt8.ofNat c)
 |[],n,_=>by simp[Jz,Lib.countByte]
 |b::s,n,h=>by
  obtain⟨H,I⟩:=P8 h
  have e:=asl H a
  simp only[Jz,qO,Lib.countByte,List.count_cons]
  rw[e,YP a s (n+1) I,YP a s n I]
  cases Nat.beq b c<;>simp[Lib.countByte]<;>omega
def Y0:List O->Option O
 |[.str s,.int .u8 (.ofNat c)]=>bif Nat.blt c 256 then vO (Jz c s 0)else none
 |_=>none
theorem axL(h:qe P f Extern.BytealgCount.count):nw P ρ f (fun a i=>match Y0 a with|some v=>some (v,i)|none=>none):=
 h.pure fun σ args v cs w d J=>by
  unfold Y0 at J
  split at J
  ·rename_i s c
   cases b:Nat.blt c 256 with
   |false=>rw[b]at J;simp at J
   |true=>
    rw[b]at J
    simp only[eP,Hl,cq]at J
    subst J
    have j:c<256:=by simpa using b
    obtain⟨x,y,e,g,rfl⟩:=lz d
    obtain⟨ok,rfl⟩:=tJ e
    obtain rfl:=oH g
    refine⟨_,Lib.run_countString _ _ _,?_⟩
    rw[YP j s 0 ok,air]
    simp[aN,Nat.toUInt8]
  ·cases J
def acQ(e:Nat):List O->aw->Option (O×aw)
 |[.int .i64 (.ofNat n)],h=>bif Nat.ble n 281474976710656&&Nat.blt h.nx eB then some (.slice h.nx 0 n 1 none,h.add (.cells e [] false true))else none
 |_,_=>none
variable{t e:TypeId}
theorem aFi{d:Array TypeId}(h:qe P f (Extern.BytealgMakeNoZero.makeNoZero d #[t]))(ai:P.underlying t=some (.slice e)):nw P ρ f (acQ e):=
 h.fn fun σ args a v o cs w an j c J=>by
  unfold acQ at J
  split at J
  ·rename_i n
   cases b:(Nat.ble n 281474976710656&&Nat.blt a.nx eB)with
   |false=>rw[b]at J;simp at J
   |true=>
    rw[b]at J
    simp only[eP,cq,iA]at J
    obtain⟨rfl,rfl⟩:=J
    simp only[dQ]at b
    have H:=hH b.1
    have I:a.nx<eB:=by simpa using b.2
    obtain⟨x,k,rfl⟩:=iT j
    obtain rfl:=oH k
    obtain⟨cells,l,q,_⟩:=Lib.run_makeNoZero (P:=P) w d t e ai n H
    have g:=c.j9 a.nx (aZ _)
    have m:kn ρ (dZ σ a.nx ⟨w.heap.size,0,cells.size⟩) ⟨w.heap.size,0,cells.size⟩ (some (.cells cells e)) (.cells e [] false true):=
     ⟨cells,(0,0),rfl,ao,ao,(fun h=>by cases h),⟨[],rfl,fun i hi=>by simp at hi⟩,fun _ i _ _=>ao⟩
    refine⟨_,_,l,dZ σ a.nx ⟨w.heap.size,0,cells.size⟩,?_,c.add g I (qQ _) (Fv _) m,.add g I (aZ _) (qQ _)⟩
    simp[aN,dZ,jv]
  ·cases J
end
def Qh(E:jE)(key ay:Nat)(d:S->O):ko:=fun x=>bif Nat.blt (x.h.nx+2) eB then
 match d x.s with
 |.fn f first cap=>match E.call f (first++([.xS (x.h.nx+1)]++cap)) ((x.h.add .deferred).add (.loop key .ready none x.h.nx x.s ay))with
  |some (_,c)=>match c.cR (x.h.nx+1)with
   |some (.loop _ .ready none _ _ _)=>some (.il,⟨x.s,c.c' (x.h.nx+1) none,x.h.nx::x.jX⟩)
   |some (.loop _ .done (some .ret) _ _ _)=>some (.ret,⟨x.s,c.c' (x.h.nx+1) none,x.h.nx::x.jX⟩)
   |some (.loop _ .done (some (.exit id)) _ _ _)=>some (.exit id,⟨x.s,c.c' (x.h.nx+1) none,x.h.nx::x.jX⟩)
   |_=>none
  |none=>none
 |_=>none
 else none
def K7:List Nat->List O->S->S
 |t::c,v::vs,s=>K7 c vs (put t v s)
 |_,_,s=>s
structure Sa where
 ay:Nat
 params:List Nat
 afI:ko
 afJ:ko
def VZ(T:Nat->Option Sa)(b:Nat)(args:List O)(h:aw):Option (O×aw):=match h.cR b with
 |some (.loop key .ready _ _ s ay)=>match T key with
  |some c=>bif Nat.beq ay c.ay&&Nat.beq args.length c.params.length&&Nat.blt b eB then
    match c.afI ⟨K7 c.params args s,h,[]⟩with
    |some (.il,⟨p,H,[]⟩)=>match H.cR b with
     |some (.loop n .ready j m l o)=>match c.afJ ⟨p,H.c' b (some (.loop n .busy j m l o)),[]⟩with
      |some (e,⟨_,I,[]⟩)=>match I.cR b with
       |some (.loop f _ _ d i g)=>match e with
        |.il=>some (.bool true,I.c' b (some (.loop f .ready none d i g)))
        |e=>some (.bool false,I.c' b (some (.loop f .done (some e) d i g)))
       |_=>none
      |_=>none
     |_=>none
    |_=>none
   else none
  |none=>none
 |_=>none
section
variable {P:Program} {ρ:cd}
structure ahc (P:Program) (ρ:cd) (T:Nat->Option Sa):Prop where
 ok:∀key b0 l,T key=some b0->ρ.pY key=some l->l.params.toList=b0.params/\(∀t∈b0.params,t<b0.ay)/\
  m4 P ρ b0.ay (fun b=>b.roundOf≠none) l.assign b0.afI/\m4 P ρ b0.ay (fun b=>b.roundOf≠none) l.body b0.afJ
theorem aqr{σ:b6}{ay:Nat}:∀(d:List Nat) (vs:List O) (cs:List Value) (s:S) (a:Array Value),(∀t∈d,t<ay)->bY ρ σ vs=some cs->nD ρ σ ay s a->
  nD ρ σ ay (K7 d vs s) ((d.zip cs).foldl (fun tmps (x:Nat×Value)=>tmps.setIfInBounds x.1 x.2) a)
 |[],vs,cs,s,a,_,_,h=>by cases vs<;>simpa[K7]using h
 |t::d,[],cs,s,a,_,e,h=>by
  simp[bY]at e;subst e
  simpa[K7]using h
 |t::d,v::vs,cs,s,a,ag,e,h=>by
  obtain⟨c,f,H,I,rfl⟩:=qo e
  simp only[K7,as_,LN]
  exact aqr d vs f _ _ (fun t ai=>ag t (jD _ ai)) I (h.put (ag t (qP ..)) H)
variable {b:l9} {a:Array Value} {ds:List Deferred} {k:List Item} {cs:List Frame} {w:World}
variable{r:Nat}
theorem Vt{l:Loop}(h:w.heap[r]? =some (.loop l)):(Instr.getLoop r).run P w=.ok l w:=by
 simp[Instr.getLoop,Vu (P:=P) h]
variable{w':World}
theorem aJf{l:Loop}(A:b.roundOf=some r)(c:(Instr.beginRound r).run P w=.ok () w'):
  step P (lone (fr b a ds (.beginRound::k)) cs w)=.next (lone (fr b a ds k) cs w'):=
 l6 (by simp[stepG,stepG.exec,stepG.apply,fr,A,c,Frame.finish])
variable{v:Value}
theorem aJr{c:Frame}(A:b.roundOf=some r)(d:b.kind=.normal)(e:(Instr.endRound r none).run P w=.ok v w'):
  step P (lone (fr b a ds []) (c::cs) w)=.next (lone (c.finish v) cs w'):=
 l6 (by simp[stepG,stepG.exec,fr,A,d,Iu,e,doReturn])
theorem aJt{c:Frame}(A:b.roundOf=some r)(d:b.kind=.normal)(e:(Instr.endRound r (some .ret)).run P w=.ok v w'):
  step P (lone (fr b a ds (.code .ret::k)) (c::cs) w)=.next (lone (c.finish v) cs w'):=
 l6 (by simp[stepG,stepG.exec,fr,A,d,Iu,e,doReturn])
theorem aJs{id:Nat}{c:Frame}(A:b.roundOf=some r)(d:b.kind=.normal)(aO:exitTo id k=none)(e:(Instr.endRound r (some (.exit id))).run P w=.ok v w'):
  step P (lone (fr b a ds (.code (.exit id)::k)) (c::cs) w)=.next (lone (c.finish v) cs w'):=
 l6 (by simp[stepG,stepG.exec,fr,A,d,aO,Iu,e,doReturn])
theorem cZ.loop{σ:b6}{h:aw}{w:World}(r:cZ ρ σ h w){b:Nat}{key:Nat}{al:LoopState}{c:Option X}{jX:Nat}{s:S}{ay:Nat}(A:h.cR b=some (.loop key al c jX s ay)):∃p a q l,σ b=some p/\p.del=0/\ρ.pY key=some l/\nD ρ σ ay s a/\σ jX=some q/\w.heap[p.aY]? =some (.loop {l with state:=al,pending:=c.map X.code,tmps:=a,defers:=q.aY})/\p.aY<w.heap.size:=by
 obtain⟨p,ag,au,H,a,q,l,I,e,d,f⟩:=r.lt A;exact⟨p,a,q,l,ag,H,I,e,d,f,au⟩
theorem aje{σ:b6}{ds:List Deferred}(h:w5 σ []=some ds):ds=[]:=by
 simp[w5]at h;exact h
theorem aLR{T:Nat->Option Sa}(cM:ahc P ρ T):ahJ P ρ (VZ T):=by
 intro σ b args h v bc cs w p an jx bK ag J;unfold VZ at J;split at J
 ·rename_i key vR jX s ay A;split at J
  ·rename_i j c0;cases L:(Nat.beq ay j.ay&&Nat.beq args.length j.params.length&&Nat.blt b eB)with
   |false=>rw[L]at J;simp at J
   |true=>
    rw[L]at J;simp only[eP]at J;simp only[dQ]at L;obtain⟨⟨aj,W⟩,K⟩:=L;obtain rfl:=gx aj;have W:=gx W;have K:b<eB:=by simpa using K
    split at J
    ·rename_i bV H az;split at J
     ·rename_i av z Zb Qs ax Y;split at J
      ·rename_i e gN I aA;split at J
       ·rename_i S VC aB R V U bp;obtain⟨bR,a0,q,l,ev,aD,ad,bm,aC,xm,au⟩:=bK.loop A;obtain rfl:p=bR:=gQ (ag.symm.trans ev);obtain⟨Q,Hq,ai,ak⟩:=cM.ok key j l c0 ad;have de:=m6 jx;have Eb:l.params.size=j.params.length:=by rw[←Q];simp
        refine⟨l.fn,(l.params.zip cs.toArray).foldl (fun tmps (x:Nat×Value)=>tmps.setIfInBounds x.1 x.2) a0,l.assign,l.body,?_,?_⟩
        ·have:¬(cs.toArray.size≠l.params.size):=bz;simp only[Instr.yield,eZ,Vt xm,eW];rw[bs this];simp only[fJ,eW]
        ·intro c g;have mj:(l.params.zip cs.toArray).foldl (fun tmps (x:Nat×Value)=>tmps.setIfInBounds x.1 x.2) a0=(j.params.zip cs).foldl (fun tmps (x:Nat×Value)=>tmps.setIfInBounds x.1 x.2) a0:=by rw[←Q,←asJ];simp[Array.toList_zip]
         have lZ:Frame.round p.aY l.fn ((l.params.zip cs.toArray).foldl (fun tmps (x:Nat×Value)=>tmps.setIfInBounds x.1 x.2) a0) l.assign l.body .normal=
           fr ⟨l.fn,.normal,some p.aY⟩ ((j.params.zip cs).foldl (fun tmps (x:Nat×Value)=>tmps.setIfInBounds x.1 x.2) a0) [] [.code l.assign,.beginRound,.code l.body]:=by
          rw[mj];rfl
         rw[lZ];obtain⟨kL,bW,nK,G,E,M,bZ⟩:=ai σ _ _ _ az ⟨l.fn,.normal,some p.aY⟩ ao [.beginRound,.code l.body] (c::g) _ [] w ⟨aqr j.params args cs s a0 Hq jx bm,bK,rfl,an⟩;obtain rfl:=aje E.d;obtain⟨dv,t,C,n,hE,af,nd,sL,hM,Z,Ci⟩:=E.h.loop Y;obtain rfl:p=dv:=gQ ((M.ext _ _ ag).symm.trans hE);obtain⟨dN,dk⟩:=E.h.put (x:=.loop av .busy z Zb Qs ax) (o:=.loop {n with state:=.busy,pending:=z.map X.code,tmps:=t,defers:=C.aY}) Y hE K Ci ⟨af,t,C,n,nd,sL,hM,rfl⟩;have bg:(Instr.beginRound p.aY).run P G=.ok () (gO G p.aY (.loop {n with state:=.busy,pending:=z.map X.code,tmps:=t,defers:=C.aY})):=by simp only[Instr.beginRound,eZ,Vt Z,eW,Ld (P:=P) Z (by intro c e f;simp)];rfl
         obtain⟨kk,cD,S0,i,N,ba,cp⟩:=ak kL _ _ _ aA ⟨l.fn,.normal,some p.aY⟩ ao [] (c::g) bW [] _ ⟨E.s,dN,rfl,E.g⟩;obtain rfl:=aje N.d;obtain⟨dy,y,F,B,h0,ah,t_,ar,nQ,aa,nf⟩:=N.h.loop bp;obtain rfl:p=dy:=gQ ((ba.ext _ _ (M.ext _ _ ag)).symm.trans h0);have bV:Steps P (lone (fr ⟨l.fn,.normal,some p.aY⟩ ((j.params.zip cs).foldl (fun tmps (x:Nat×Value)=>tmps.setIfInBounds x.1 x.2) a0) [] [.code l.assign,.beginRound,.code l.body]) (c::g) w)
           (lone (fr ⟨l.fn,.normal,some p.aY⟩ bW [] [.code l.body]) (c::g) (gO G p.aY (.loop {n with state:=.busy,pending:=z.map X.code,tmps:=t,defers:=C.aY}))):=tj bZ (.one (aJf (l:=n) rfl bg))
         have O:∀(al:LoopState) (d:Option X) (D:Bool),(Instr.endRound p.aY (d.map X.code)).run P i=.ok (.bool D) (gO i p.aY (.loop {B with state:=al,pending:=d.map X.code,tmps:=y,defers:=F.aY}))->
           v=.bool D->bc=I.c' b (some (.loop S al d R V U))->
           step P (match e with|.il=>lone (fr ⟨l.fn,.normal,some p.aY⟩ cD [] []) (c::g) i|.ret=>lone (fr ⟨l.fn,.normal,some p.aY⟩ cD [] []) (c::g) i|.exit _=>lone (fr ⟨l.fn,.normal,some p.aY⟩ cD [] []) (c::g) i)=step P (lone (fr ⟨l.fn,.normal,some p.aY⟩ cD [] []) (c::g) i)->
           ∀m,Steps P (lone (fr ⟨l.fn,.normal,some p.aY⟩ bW [] [.code l.body]) (c::g) (gO G p.aY (.loop {n with state:=.busy,pending:=z.map X.code,tmps:=t,defers:=C.aY}))) m->
            step P m=.next (lone (c.finish (.bool D)) g (gO i p.aY (.loop {B with state:=al,pending:=d.map X.code,tmps:=y,defers:=F.aY})))->
           ∃u w',qT ρ σ h w v bc u w'/\Steps P (lone (fr ⟨l.fn,.normal,some p.aY⟩ ((j.params.zip cs).foldl (fun tmps (x:Nat×Value)=>tmps.setIfInBounds x.1 x.2) a0) [] [.code l.assign,.beginRound,.code l.body]) (c::g) w) (lone (c.finish u) g w'):=fun al d D ab aw ae _ m ap e2=>by
          subst aw;subst ae;obtain⟨dl,dE⟩:=N.h.put (x:=.loop S al d R V U) (o:=.loop {B with state:=al,pending:=d.map X.code,tmps:=y,defers:=F.aY}) bp h0 K nf ⟨ah,y,F,B,t_,ar,nQ,rfl⟩;exact⟨.bool D,_,⟨kk,rfl,dl,M.trans (dk.trans (ba.trans dE))⟩,tj bV (tj ap (.one e2))⟩
         have r:∀(d:Option X),(Instr.endRound p.aY (d.map X.code)).run P i=.ok (.bool d.isNone) (gO i p.aY (.loop {B with state:=if d.isNone then .ready else .done,pending:=d.map X.code,tmps:=y,defers:=F.aY})):=fun d=>by simp only[Instr.endRound,eZ,Vt aa,eW,Ld (P:=P) aa (by intro c e f;simp),fJ];cases d<;>rfl
         cases e with
         |il=>simp only[cq,iA]at J;exact O .ready none true (r none) J.1.symm J.2.symm rfl _ cp (aJr rfl rfl (r none))
         |exit id=>simp only[cq,iA]at J;obtain⟨dF,it,cp⟩:=cp;exact O .done (some (.exit id)) false (r (some (.exit id))) J.1.symm J.2.symm rfl _ cp (aJs rfl rfl (by rw[it];rfl) (r (some (.exit id))))
         |ret=>simp only[cq,iA]at J;obtain⟨dF,cp⟩:=cp;exact O .done (some .ret) false (r (some .ret)) J.1.symm J.2.symm rfl _ cp (aJt rfl rfl (r (some .ret)))
       ·cases J
      ·cases J
     ·cases J
    ·cases J
  ·cases J
 ·cases J
def Hh(r:Nat):Deferred:={target:=.collected r,args:=#[]}
theorem aH6{f:FuncId}{params:Array Tmp}{assign body:Code}: (Instr.enterLoop f a params assign body none).run P w=.ok (w.heap.size+1,[Hh w]) {w with heap:=(w.heap.push (.deferred (some []))).push (.loop {state:=.ready,pending:=none,fn:=f,tmps:=a,params,assign,body,defers:=w.heap.size})}:=by
 simp only[Instr.enterLoop,eZ,fJ,eW,run_newObj,Hh,World.alloc];simp
def Lw(f:Operand)(l:Nat):Call:={callee:=.value f,args:=#[.const (.func (.yield l) #[] #[])],argTypes:=#[]}
variable{l:Nat}
theorem aJn{f:Operand}{params:Array Tmp}{assign body:Code}{c:World}{mk:List Deferred}{g:FuncId}{args:Array Value}(A:b.roundOf=none) (aO:(Instr.enterLoop b.fn a params assign body none).run P w=.ok (l,mk) c) (e:(do let d ←resolve (ez a) (Lw f l) 0;invoke d.target d.args:Sem Next).run P c=.ok (.enter g args) c): step P (lone (fr b a ds (.code (.rangeFunc f params assign body)::k)) cs w)=.next (lone (Frame.enter P g args .normal) (fr b a (mk++ds) (.inRangeFunc l::k)::cs) c):=by
 have h:=S9 b a (mk++ds) (.inRangeFunc l::k);simp only[fr,A]at h;simp only[Lw]at e;exact l6 (by simp only[fr,A];simp[stepG,stepG.exec,stepG.apply,Iu,aO,h,e])
theorem aJo{f:Operand}{params:Array Tmp}{assign body:Code}{e g:World}{mk:List Deferred}(A:b.roundOf=none) (aO:(Instr.enterLoop b.fn a params assign body none).run P w=.ok (l,mk) e) (c:(do let d ←resolve (ez a) (Lw f l) 0;invoke d.target d.args:Sem Next).run P e=.ok (.value v) g): step P (lone (fr b a ds (.code (.rangeFunc f params assign body)::k)) cs w)=.next (lone (fr b a (mk++ds) (.endRangeFunc l::k)) cs g):=by
 have h:=S9 b a (mk++ds) (.inRangeFunc l::k);simp only[fr,A]at h;simp only[Lw]at c;exact l6 (by simp only[fr,A];simp[stepG,stepG.exec,stepG.apply,Iu,aO,h,c,Frame.finish])
theorem aJg{c:Option Code}(d:(Instr.endLoop l).run P w=.ok c w'):
  step P (lone (fr b a ds (.endRangeFunc l::k)) cs w)=.next (lone (fr b a ds ((c.map Item.code).toList++k)) cs w'):=
 l6 (by simp[stepG,stepG.exec,fr,Iu,d])
theorem azb(v:Value)(l:Nat):(fr b a ds (.inRangeFunc l::k)).finish v=fr b a ds (.endRangeFunc l::k):=rfl
theorem aIG{E:jE}(cK:uO P ρ E){key ay:Nat}{Y:S->O}{t:Operand}{params:Array Tmp}{assign body:Code}{B:l9->Prop}{g:Loop}(bk:∀b,B b->b.roundOf=none/\b.fn=g.fn) (aa:ρ.pY key=some g)(ak:g.params=params)(has:g.assign=assign)(kU:g.body=body)(bU:Se P ρ ay t Y):m4 P ρ ay B (.rangeFunc t params assign body) (Qh E key ay Y):=by
 intro σ x e C h b A k cs a ds w i;obtain⟨Q,bp⟩:=bk b A;unfold Qh at h;cases au:Nat.blt (x.h.nx+2) eB with
 |false=>rw[au]at h;simp at h
 |true=>
  rw[au]at h;simp only[eP]at h;have au:x.h.nx+2<eB:=by simpa using au
  split at h
  ·rename_i f first cap Kj
   split at h
   ·rename_i fH K ai;have r:=bU σ x.s a i.g i.s;rw[Kj]at r;have Z:=i.h.j9 x.h.nx (aZ _);have zE:=i.h.add (nx:=x.h.nx+1) (tot:=0) (d:=w.drawn) (obj:=.deferred (some [])) (x:=.deferred) Z z (qQ _) (Fv _) ⟨rfl,rfl⟩;have si:jF σ x.h w _ (x.h.add .deferred) {w with heap:=w.heap.push (.deferred (some [])),drawn:=w.drawn}:=jF.add (tot:=0) (obj:=.deferred (some [])) (x:=.deferred) Z z (aZ _) (qQ _);have L:=zE.j9 (x.h.nx+1) (aZ _);have Ko:g={state:=g.state,pending:=g.pending,fn:=b.fn,tmps:=g.tmps,params,assign,body,defers:=g.defers}:=by rw[bp,←ak,←has,←kU]
    have XQ:kn ρ (dZ (dZ σ x.h.nx ⟨w.heap.size,0,0⟩) (x.h.nx+1) ⟨w.heap.size+1,0,0⟩) ⟨w.heap.size+1,0,0⟩
      (some (.loop {state:=.ready,pending:=none,fn:=b.fn,tmps:=a,params,assign,body,defers:=w.heap.size})) (.loop key .ready none x.h.nx x.s ay):=by
     refine⟨rfl,a,⟨w.heap.size,0,0⟩,g,aa,(i.s.ext si.ext).ext (.c' L),by simp[dZ],?_⟩;rw[Ko];rfl
    have Mh:=zE.add (nx:=x.h.nx+1+1) (tot:=0) (d:=w.drawn) (x:=.loop key .ready none x.h.nx x.s ay) L z (qQ _) (Fv _) (obj:=.loop {state:=.ready,pending:=none,fn:=b.fn,tmps:=a,params,assign,body,defers:=w.heap.size}) (by simpa using XQ);have an:=jF.add (h:=x.h.add .deferred) (w:={w with heap:=w.heap.push (.deferred (some [])),drawn:=w.drawn}) (nx:=x.h.nx+1+1) (tot:=0) (d:=w.drawn) (x:=.loop key .ready none x.h.nx x.s ay) L z (aZ _) (qQ _) (obj:=.loop {state:=.ready,pending:=none,fn:=b.fn,tmps:=a,params,assign,body,defers:=w.heap.size});have T:=si.trans an;simp only[aN]at r;split at r
    ·rename_i N iU am k';have r:=gQ r;have J:mw σ (dZ (dZ σ x.h.nx ⟨w.heap.size,0,0⟩) (x.h.nx+1) ⟨(w.heap.push (.deferred (some []))).size,0,0⟩):=T.ext;have jx:bY ρ (dZ (dZ σ x.h.nx ⟨w.heap.size,0,0⟩) (x.h.nx+1) ⟨(w.heap.push (.deferred (some []))).size,0,0⟩) (first++([.xS (x.h.nx+1)]++cap))=some (N++([.func (.yield (w.heap.size+1)) #[] #[]]++iU)):=
      Ab (w2 J am) (Ab (by simp[bY,aN,dZ]) (w2 J k'))
     have ad:kA P (dZ (dZ σ x.h.nx ⟨w.heap.size,0,0⟩) (x.h.nx+1) ⟨(w.heap.push (.deferred (some []))).size,0,0⟩):=i.g.ext J;have W:∀w',(do let d ←resolve (ez a) (Lw t (w.heap.size+1)) 0;invoke d.target d.args:Sem Next).run P w'=(callFunc f (N++([Value.func (.yield (w.heap.size+1)) #[] #[]]++iU)).toArray).run P w':=fun w'=>by simp only[Lw,resolve,←r,Deferred.ofValue,eZ,fJ,eW,invoke];congr 2;apply xT;simp[ez]
     have U:=aH6 (P:=P) (a:=a) (w:=w) (f:=b.fn) (params:=params) (assign:=assign) (body:=body);have lB:∀(c:Value) (j:World),qT ρ (dZ (dZ σ x.h.nx ⟨w.heap.size,0,0⟩) (x.h.nx+1) ⟨(w.heap.push (.deferred (some []))).size,0,0⟩) ((x.h.add .deferred).add (.loop key .ready none x.h.nx x.s ay)) {w with heap:=(w.heap.push (.deferred (some []))).push (.loop {state:=.ready,pending:=none,fn:=b.fn,tmps:=a,params,assign,body,defers:=w.heap.size})} fH K c j->
       Steps P (lone (fr b a ds (.code (.rangeFunc t params assign body)::k)) cs w) (lone (fr b a (Hh w::ds) (.endRangeFunc (w.heap.size+1)::k)) cs j)->
       ∃V a' M w',Ds P ρ ay V C a' M w'/\jF σ x.h w V C.h w'/\I' P (lone (fr b a ds (.code (.rangeFunc t params assign body)::k)) cs w) b a' M k cs w' e:=fun c j ⟨o,ap,R,H⟩ yK=>by
      have Ea:o (x.h.nx+1)=some ⟨w.heap.size+1,0,0⟩:=by have:=H.ext (x.h.nx+1) ⟨(w.heap.push (.deferred (some []))).size,0,0⟩ (by simp[dZ]);simpa using this
      have aj:o x.h.nx=some ⟨w.heap.size,0,0⟩:=H.ext _ _ (by simp[dZ]);have all:=T.trans H;have done:∀(gL:Nat) (al:LoopState) (u:Option X) (jX:Nat) (s:S) (m:Nat),K.cR (x.h.nx+1)=some (.loop gL al u jX s m)->al≠ .busy->C=⟨x.s,K.c' (x.h.nx+1) none,x.h.nx::x.jX⟩->
        ∃l,Ds P ρ ay o C a (Hh w::ds) l/\jF σ x.h w o C.h l/\Steps P (lone (fr b a ds (.code (.rangeFunc t params assign body)::k)) cs w) (lone (fr b a (Hh w::ds) (((u.map X.code).map Item.code).toList++k)) cs l):=fun gL al u jX s m n G mm=>by
       subst mm;obtain⟨p,a3,q,ix,ag,ar,nN,aq,aC,xm,av⟩:=R.loop n;obtain rfl:(⟨w.heap.size+1,0,0⟩:nB)=p:=gQ (Ea.symm.trans ag);obtain⟨aX,ba⟩:=R.aj' n ag z (.loop {ix with state:=.exhausted,pending:=u.map X.code,tmps:=a3,defers:=q.aY});have ae:(Instr.endLoop (w.heap.size+1)).run P j=.ok (u.map X.code) (gO j (w.heap.size+1) (.loop {ix with state:=.exhausted,pending:=u.map X.code,tmps:=a3,defers:=q.aY})):=by
        have bT:(al==.busy)=false:=by simpa using G
        simp only[Instr.endLoop,eZ,Vt xm,eW,bT,qM,pz,fJ,Ld (P:=P) xm (by intro c e f;simp)]
       refine⟨_,⟨i.s.ext all.ext,aX,?_,i.g.ext all.ext⟩,all.trans ba,tj yK (.one (aJg ae))⟩;simp only[w5,aj,SS all.ext i.d,Hh]
      split at h
      ·rename_i gL jX s m n;simp only[cq,iA]at h;obtain⟨rfl,rfl⟩:=h;obtain⟨l,y,D,F⟩:=done gL .ready none jX s m n ao rfl;exact⟨o,a,_,l,y,D,show Steps _ _ _ by simpa using F⟩
      ·rename_i gL jX s m n;simp only[cq,iA]at h;obtain⟨rfl,rfl⟩:=h;obtain⟨l,y,D,F⟩:=done gL .done (some .ret) jX s m n ao rfl;exact⟨o,a,_,l,y,D,k,by simpa[X.code]using F⟩
      ·rename_i gL id jX s m n;simp only[cq,iA]at h;obtain⟨rfl,rfl⟩:=h;obtain⟨l,y,D,F⟩:=done gL .done (some (.exit id)) jX s m n ao rfl;exact⟨o,a,_,l,y,D,k,rfl,by simpa[X.code]using F⟩
      ·cases h
     rcases cK.call f _ _ _ _ _ _ _ ad jx Mh ai with⟨c,j,I,aH⟩|⟨I,aH⟩
     ·refine lB c j aH (.one ?_);exact aJo Q U (by rw[W];exact I)
     ·obtain⟨c,j,af,G⟩:=aH (fr b a (Hh w::ds) (.inRangeFunc (w.heap.size+1)::k)) cs;rw[azb]at G;exact lB c j af (.head (aJn Q U (by rw[W];exact I)) G)
    ·cases r
   ·cases h
  ·cases h
end
def Zz(agg:Bool)(off n:Nat):List O->Option O
 |[.agg l]=>bif agg then(bif Nat.ble (off+n) l.length then some (.agg ((l.drop off).take n))else none)else l[off]?
 |_=>none
theorem ay8{P:Program}{ρ:cd}{o:Oper}{t:TypeId}{x:Operand}{i:Nat}{q:Array Field}{f:Field}{d:TypeDesc}{b:TypeInfo}(h:o.op=.field t x i)(hu:P.underlying t=some (.struct q))(n:q[i]? =some f)(hd:P.underlying f.type=some d)(hi:P.info? f.type=some b):mA P ρ o (Zz (vd d) f.offset b.size):=by
 intro σ s a w v an z J;unfold Zz at J;split at J
 ·rename_i l;obtain⟨c,k,e⟩:=iT z;simp[fW,h,Op.operands]at e;simp only[aN,iz]at k;obtain⟨cs,g,rfl⟩:=k;have j:=Vv (w:=w) hd;have B:=p3 (P:=P) (w:=w) hi;have m:=hR (P:=P) (w:=w) hu;have D:=m6 g;generalize vd d=u at J j;cases u with
  |true=>
   simp only[eP]at J;cases p:Nat.ble (f.offset+b.size) l.length with
   |false=>simp[p]at J
   |true=>
    rw[p]at J;simp only[eP,cq]at J;subst J;refine⟨.agg ((cs.drop f.offset).take b.size).toArray,by simp[aN,tI b.size (vj f.offset g)],?_⟩;have aO:(cs.toArray.extract f.offset (f.offset+b.size))=((cs.drop f.offset).take b.size).toArray:=by apply xT;simp[List.extract_eq_drop_take]
    simp only[execOp,h,e,Instr.field,part,asAgg,eZ,m,eW,n,fJ,j,B,ox,aO]
  |false=>
   simp only[jt]at J;obtain⟨y,A,C⟩:=Ac g J;refine⟨y,C,?_⟩;have r:cs.toArray[f.offset]? =some y:=by simpa using A
   simp only[execOp,h,e,Instr.field,part,asAgg,eZ,m,eW,n,fJ,j,qM,pz,r]
 ·cases J
def adO(n esz:Nat)(a c:Bool):List O->Option O
 |.iZ b off::r=>match qm a c n n r with
  |some (l,h)=>bif Nat.ble h n&&Nat.blt l n then some (.slice b (off+l*esz) (h-l) esz (some (n-l)))else none
  |none=>none
 |_=>none
theorem aIO{P:Program}{ρ:cd}{o:Oper}{t e:TypeId}{n:Nat}{x:Operand}{eh hi:Option Operand}(h:o.op=.slice t x eh hi none){d:TypeInfo}(hu:P.underlying t=some (.array n e))(u:P.info? e=some d):mA P ρ o (adO n d.size eh.isSome hi.isSome):=by
 intro σ s a w v an f J;have y:fW o a=ez a x::((eh.toArray++hi.toArray).toList.map (ez a)):=by simp[fW,h,Op.operands]
 rw[y]at f;unfold adO at J;split at J
 ·rename_i b off r;split at J
  ·rename_i l I A;cases c:(Nat.ble I n&&Nat.blt l n)with
   |false=>rw[c]at J;simp at J
   |true=>
    rw[c]at J;simp only[eP,cq]at J;subst J;simp only[dQ]at c;have C:l<n:=by simpa using c.2
    obtain⟨c1,B,j,g,aO⟩:=qo f;simp only[p7]at aO;obtain⟨aj,k⟩:=aO;obtain⟨p,ag,i⟩:=w3 j;rw[←k]at g;obtain⟨D,E,q⟩:=SB (P:=P) (w:=w) (isSlice:=false) (len:=n) (cap:=n) A (aZ _) g;refine⟨.slice (some ⟨p.aY,p.del+(off+l*d.size),none⟩) (I-l) (n-l),by simp only[aN,ag,n6,jv],?_⟩;have m:¬n=l:=z;rw[i]at aj;simp only[execOp,h,aj,afr,Instr.sliceAt,Instr.sureAddr,eZ,hR hu,eW,q,p3 u,fJ,zW,bs m,kN]
  ·cases J
 ·cases J
def NI(P:Program)(op:BinOp)(t:TypeId):Option o9:=match P.underlying t with
 |some (.int _)=>some (.pure (tF op))
 |some .string=>some (.pure (tF op))
 |some (.pointer e)=>match P.info? e with
  |some a=>if a.size≠0 then some (.pure (Zq op))else none
  |none=>none
 |some (.slice _)=>some (.pure (Zr op))
 |some (.func _ _ _)=>some (.pure (Zn op))
 |some (.struct b)=>if P.stoodInHeld t=false/\P.eqGuardType P.depth t=false then match JU P b.toList with
   |some c=>some (.pure (Zs op c))
   |none=>none
  else none
 |_=>none
def Y9(P:Program)(s d:TypeId):Option o9:=match P.underlying s,P.underlying d with
 |some (.slice e),some .string=>match P.underlying e with
  |some (.int .u8)=>some (.r7 Yy)
  |_=>none
 |some (.int _),some (.int k)=>some (.pure (YX k))
 |some (.pointer t),some .unsafePointer=>match P.info? t with
  |some b=>if b.size≠0 then some (.r7 aee)else none
  |none=>none
 |some .unsafePointer,some (.pointer u)=>match P.info? u with
  |some a=>if a.size≠0 then some (.r7 (acZ u a.size))else none
  |none=>none
 |_,_=>none
def Za(P:Program)(t:TypeId)(eh hi:Bool):Option o9:=match P.underlying t with
 |some .string=>some (.pure (adR eh hi))
 |some (.slice e)=>match P.info? e with
  |some a=>some (.r7 (adT a.size eh hi))
  |none=>none
 |some (.array n e)=>match P.info? e with
  |some a=>some (.pure (adO n a.size eh hi))
  |none=>none
 |_=>none
def NK(P:Program)(t:TypeId):Option o9:=match P.underlying t with
 |some .string=>some (.pure PH)
 |some (.slice _)=>some (.pure PG)
 |_=>none
def Y6(P:Program)(s b:TypeId):Option o9:=match P.underlying s,P.underlying b with
 |some (.slice _),some (.int _)=>none
 |some (.slice e),some _=>match P.info? e with
  |some a=>match a.zero with
   |some af=>if af.cells.size=a.size/\a.size≠0 then some (.sT (Yg e a.size a.bytes))else none
   |none=>none
  |none=>none
 |_,_=>none
def NJ(P:Program)(b:Builtin)(a:Array TypeId):Option o9:=match b with
 |.len=>match a[0]? with|some t=>NK P t|none=>none
 |.cap=>match a[0]? with
  |some t=>match P.underlying t with
   |some (.slice e)=>match P.info? e with|some c=>some (.r7 (YH c.size))|none=>none
   |_=>none
  |none=>none
 |.append=>match a[0]?,a[1]? with|some s,some x=>Y6 P s x|_,_=>none
 |.copy=>match a[0]? with
  |some s=>match P.underlying s with
   |some (.slice e)=>match P.info? e with|some c=>some (.sT (YY c.size))|none=>none
   |_=>none
  |none=>none
 |.max=>some (.pure acl)
 |.unsafeSliceData=>some (.r7 adP)
 |.unsafeString=>match a[0]? with
  |some d=>match P.underlying d with
   |some (.pointer e)=>match P.info? e with|some c=>if c.size=1 then some (.sT (aen e))else none|none=>none
   |_=>none
  |none=>none
 |_=>none
def V0(P:Program)(t:TypeId):Option (List O):=match P.info? t with
 |some i=>match i.zero with
  |some af=>uk af.cells.toList
  |none=>none
 |none=>none
def Jo{a:Type}:List (Option a)->Option (List a)
 |[]=>some []
 |some x::l=>match Jo l with|some r=>some (x::r)|none=>none
 |none::_=>none
theorem ah7{a:Type}:∀{l:List (Option a)} {r:List a},Jo l=some r->l=r.map some
 |[],r,h=>by simp[Jo]at h;subst h;rfl
 |none::_,_,h=>by simp[Jo]at h
 |some x::l,r,h=>by
  simp only[Jo]at h
  split at h
  ·rename_i q b
   cases h
   simp[ah7 b]
  ·cases h
def Y7(P:Program)(t:TypeId)(parts:List (Nat×Operand)):Option o9:=match V0 P t with
 |some zs=>match P.underlying t with
  |some (.struct c)=>match K3 P c.toList with
   |some a=>match Jo (parts.map fun p=>a[p.1]?)with
    |some b=>some (.pure (Yx zs b))
    |none=>none
   |none=>none
  |_=>none
 |none=>none
def Y8(P:Program)(t:TypeId)(len:Nat)(parts:List (Nat×Operand)):Option o9:=match P.underlying t with
 |some (.slice e)=>match P.info? e with
  |some a=>match a.zero with
   |some af=>if len*a.size<=2^24/\a.size≠0 then match uk ((Array.range (len*a.size)).map ((if len*a.size=0 then #[]else af.cells)[· %(if len*a.size=0 then #[]else af.cells).size]!)).toList with
     |some b=>some (.alloc (Yw e b (parts.map fun p=>(p.1*a.size,a.size))) (adS len a.size))
     |none=>none
    else none
   |none=>none
  |none=>none
 |_=>none
def Y'(P:Program)(t:TypeId):Option o9:=match P.underlying t with
 |some (.slice e)=>match P.info? e with
  |some a=>match a.zero with
   |some af=>if af.cells.size=a.size/\a.size≠0 then match uk af.cells.toList with
     |some zs=>some (.alloc (aci e zs a.bytes) (adQ a.size))
     |none=>none
    else none
   |none=>none
  |none=>none
 |_=>none
def Uw(P:Program)(k:TypeId):Option Nat:=match P.underlying k with
 |some kd=>qK kd
 |none=>none
def Y_(P:Program)(t:TypeId)(ok:Bool):Option o9:=match P.underlying t with
 |some (.map k e)=>match Uw P k,P.info? e with
  |some c,some b=>match b.zero with
   |some af=>match ofValue af with
    |some a=>some (.r7 (acd c a ok))
    |none=>none
   |none=>none
  |_,_=>none
 |_=>none
def SV(P:Program)(t:TypeId):Option o9:=match P.underlying t with
 |some (.map k _)=>match Uw P k with
  |some a=>some (.sT (acj a))
  |none=>none
 |_=>none
def pe(P:Program)(E:jE)(op:Op):Option o9:=match op with
 |.move _=>some (.pure Cy)
 |.assign _=>some (.pure Cy)
 |.pick _ _ _=>some (.pure Qc)
 |.extract _ i=>some (.pure (Zx i))
 |.makeFunc (.func f) first _=>some (.pure (anF f first.size))
 |.makeInterface t _=>match P.underlying t with
  |some (.interface _)=>none
  |some _=>some (.pure (abK t))
  |none=>none
 |.binOp b t _ _ _=>NI P b t
 |.unOp u _ _=>some (.pure (aem u))
 |.load t _=>match P.underlying t,P.info? t with
  |some d,some i=>some (.r7 (Es (vd d) i.size))
  |_,_=>none
 |.store t _ _=>match P.info? t with
  |some i=>some (.sT (ad2 i.size))
  |none=>none
 |.fieldAddr t _ i=>match P.underlying t with
  |some (.struct g)=>match g[i]? with
   |some f=>match P.info? f.type with
    |some h=>if h.size≠0 then some (.pure (N2 f.offset))else none
    |none=>none
   |none=>none
  |_=>none
 |.field t _ i=>match P.underlying t with
  |some (.struct g)=>match g[i]? with
   |some f=>match P.underlying f.type,P.info? f.type with
    |some d,some h=>some (.pure (Zz (vd d) f.offset h.size))
    |_,_=>none
   |none=>none
  |_=>none
 |.indexAddr t _ _=>match P.underlying t with
  |some (.slice e)=>match P.info? e with|some a=>some (.pure (KE a.size))|none=>none
  |some (.array len e)=>match P.info? e with|some a=>some (.pure (abN len a.size))|none=>none
  |_=>none
 |.nilCheck _=>some (.pure PU)
 |.alloc t=>match V0 P t with|some zs=>some (.alloc (Ye t zs) K5)|none=>none
 |.box t _=>some (.alloc (Yu t) K5)
 |.build t parts=>Y7 P t parts.toList
 |.buildSlice t len parts=>Y8 P t len parts.toList
 |.makeSlice t _ _=>Y' P t
 |.index t _ _=>match P.underlying t with|some .string=>some (.pure KF)|_=>none
 |.convert s d _=>Y9 P s d
 |.slice t _ eh hi none=>Za P t eh.isSome hi.isSome
 |.lookup t _ _ ok=>Y_ P t ok
 |.makeMap _ none=>some (.alloc ach ack)
 |.mapUpdate t _ _ _=>SV P t
 |.insert t _ _ _=>SV P t
 |.call c=>match c.callee with
  |.value _=>some (.sT (Ns E))
  |.builtin b=>NJ P b c.argTypes
  |_=>none
 |_=>none
end Go.cv
namespace Go.cv
section
variable {P:Program} {ρ:cd} {o:Oper} {f:o9}
variable{t:TypeId}{x y:Operand}
theorem ax4{op:BinOp}{g:TypeId}(a:o.op=.binOp op t x y g)(h:NI P op t=some f):sr P ρ o f:=by
 unfold NI at h;split at h;cases h;exact aij a;cases h;exact aij a;rename_i e hu;split at h;rename_i i aO;split at h;rename_i c;cases h;exact ayK a hu aO c;cases h;cases h;rename_i hu;cases h;exact ayL a hu;rename_i hu;cases h;exact ayI a hu;rename_i j hu;split at h;rename_i b;split at h;rename_i k d;cases h;exact ayN a hu b.1 b.2 d;cases h;cases h;cases h
variable{s:TypeId}
theorem ax8{d:TypeId}(b:o.op=.convert s d x)(h:Y9 P s d=some f):sr P ρ o f:=by
 unfold Y9 at h;split at h;rename_i e a hd;split at h;rename_i aO;cases h;exact awW b a aO hd;cases h;rename_i a hd;cases h;exact axD b a hd;rename_i t a hd;split at h;rename_i g ai;split at h;rename_i c;cases h;exact aKo b a hd ai c;cases h;cases h;rename_i u a hd;split at h;rename_i i hu;split at h;rename_i c;cases h;exact aFw b a hd hu c;cases h;cases h;cases h
theorem ayi{t:TypeId}{x:Operand}{eh hi:Option Operand}(a:o.op=.slice t x eh hi none)(h:Za P t eh.isSome hi.isSome=some f):sr P ρ o f:=by
 unfold Za at h;split at h
 ·rename_i hu;cases h;exact aIQ a hu
 ·rename_i e hu;split at h
  ·rename_i b aO;cases h;exact aIR a hu aO
  ·cases h
 ·rename_i n e hu;split at h
  ·rename_i b aO;cases h;exact aIO a hu aO
  ·cases h
 ·cases h
theorem ayb{c:Call}(b:o.op=.call c)(a:c.callee=.builtin .len)(ai:c.argTypes[0]? =some t)(h:NK P t=some f):sr P ρ o f:=by
 unfold NK at h;split at h;rename_i hu;cases h;exact aDN b a ai hu;rename_i hu;cases h;exact aDL b a ai hu;cases h
theorem ax3{c:Call}{b:TypeId}(j:o.op=.call c)(g:c.callee=.builtin .append)(ae:c.argTypes[0]? =some s)(H:c.argTypes[1]? =some b)(h:Y6 P s b=some f):sr P ρ o f:=by
 unfold Y6 at h;split at h;cases h;rename_i e n d hu l;split at h;rename_i m aO;split at h;rename_i af i;split at h;rename_i a;cases h;exact awq j g ae H hu aO i a.1 a.2 l (fun k e=>d k e);cases h;cases h;cases h;cases h
theorem ax7{c:Call}{b:Builtin}(d:o.op=.call c)(a:c.callee=.builtin b)(h:NJ P b c.argTypes=some f):sr P ρ o f:=by
 unfold NJ at h;split at h;split at h;rename_i t ai;exact ayb d a ai h;cases h;split at h;rename_i t ai;split at h;rename_i e hu;split at h;rename_i g aO;cases h;exact aw5 d a ai hu;cases h;cases h;cases h;split at h;rename_i s x ae H;exact ax3 d a ae H h;cases h;split at h;rename_i s i;split at h;rename_i e hu;split at h;rename_i g aO;cases h;exact axK d a i hu aO;cases h;cases h;cases h;cases h;exact aEd d a;cases h;exact aIP d a;split at h;rename_i k j;split at h;rename_i e hu;split at h;rename_i g aO;split at h;rename_i H;cases h;exact aLn d a j hu aO H;cases h;cases h;cases h;cases h;cases h
theorem asE{zs:List O}(h:V0 P t=some zs):∃i af,P.info? t=some i/\i.zero=some af/\uk af.cells.toList=some zs:=by
 unfold V0 at h;split at h;rename_i i hi;split at h;rename_i af a;exact⟨i,af,hi,a,h⟩;cases h;cases h
variable{parts:Array (Nat×Operand)}
theorem ax6(d:o.op=.build t parts)(h:Y7 P t parts.toList=some f):sr P ρ o f:=by
 unfold Y7 at h;split at h;rename_i zs a;obtain⟨i,af,hi,c,a⟩:=asE a;split at h;rename_i j hu;split at h;rename_i e b;split at h;rename_i g ag;cases h;exact awO d hi c a hu b (ah7 ag);cases h;cases h;cases h;cases h
theorem ax5{len:Nat}(d:o.op=.buildSlice t len parts)(h:Y8 P t len parts.toList=some f):sr P ρ o f:=by
 unfold Y8 at h;split at h;rename_i e hu;split at h;rename_i i aO;split at h;rename_i af c;split at h;rename_i a;split at h;rename_i g b;cases h;exact awN d hu aO c a.1 a.2 b rfl;cases h;cases h;cases h;cases h;cases h
theorem ayd(c:o.op=.makeSlice t x y)(h:Y' P t=some f):sr P ρ o f:=by
 unfold Y' at h;split at h;rename_i e hu;split at h;rename_i g aO;split at h;rename_i af b;split at h;rename_i a;split at h;rename_i zs d;cases h;exact aEa c hu aO b d a.1 a.2;cases h;cases h;cases h;cases h;cases h
theorem am_{k:TypeId}{a:Nat}(h:Uw P k=some a):∃kd,P.underlying k=some kd/\qK kd=some a:=by
 unfold Uw at h;split at h;rename_i kd b;exact⟨kd,b,h⟩;cases h
theorem ayc{ok:Bool}(d:o.op=.lookup t x y ok)(h:Y_ P t ok=some f):sr P ρ o f:=by
 unfold Y_ at h;split at h;rename_i k e hu;split at h;rename_i j i ai aO;obtain⟨kd,b,ai⟩:=am_ ai;split at h;rename_i af c;split at h;rename_i g a;cases h;exact aD0 d hu b ai aO c a;cases h;cases h;cases h;cases h
theorem aji{af:Operand}(b:o.op=.mapUpdate t x y af∨o.op=.insert t x y af)(h:SV P t=some f):sr P ρ o f:=by
 unfold SV at h;split at h;rename_i k e hu;split at h;rename_i c ai;obtain⟨kd,a,ai⟩:=am_ ai;cases h;exact aEb b hu a ai;cases h;cases h
theorem ayf{E:jE}(q:uO P ρ E)(h:pe P E o.op=some f):sr P ρ o f:=by
 generalize a:o.op=op at h;unfold pe at h;split at h
 ·cases h;exact ao9 (.inl a)
 ·cases h;exact ao9 (.inr a)
 ·cases h;exact aGL a
 ·cases h;exact ay1 a
 ·cases h;exact aD_ a
 ·split at h
  ·cases h
  ·rename_i d hd hu;cases h;exact aCD a hu (fun r e=>hd r e)
  ·cases h
 ·exact ax4 a h
 ·cases h;exact aLk a
 ·split at h
  ·rename_i d i hu hi;cases h;exact anz a hu hi
  ·cases h
 ·split at h
  ·rename_i i hi;cases h;exact aJG a hi
  ·cases h
 ·split at h
  ·rename_i s hu;split at h
   ·rename_i u k;split at h
    ·rename_i t m;split at h
     ·rename_i j;cases h;exact ay6 a hu k m j
     ·cases h
    ·cases h
   ·cases h
  ·cases h
 ·split at h
  ·rename_i s hu;split at h
   ·rename_i u k;split at h
    ·rename_i d t hd hi;cases h;exact ay8 a hu k hd hi
    ·cases h
   ·cases h
  ·cases h
 ·split at h
  ·rename_i e hu;split at h
   ·rename_i p aO;cases h;exact aCF a hu aO
   ·cases h
  ·rename_i n e hu;split at h
   ·rename_i p aO;cases h;exact aCG a hu aO
   ·cases h
  ·cases h
 ·cases h;exact aFa a
 ·split at h
  ·rename_i zs l;obtain⟨i,af,hi,j,l⟩:=asE l;cases h;exact awn a hi j l
  ·cases h
 ·cases h;exact awK a
 ·exact ax6 a h
 ·exact ax5 a h
 ·exact ayd a h
 ·split at h
  ·rename_i hu;cases h;exact aCJ a hu
  ·cases h
 ·exact ax8 a h
 ·exact ayi a h
 ·exact ayc a h
 ·cases h;exact aD' a
 ·exact aji (.inl a) h
 ·exact aji (.inr a) h
 ·rename_i c;split at h
  ·rename_i x g;cases h;exact aw3 q a g
  ·rename_i b g;exact ax7 a g h
  ·cases h
 ·cases h
end
inductive yg where
 |pv (f:o9)
 |call
def yg.VO(E:jE):yg->o9
 |.pv f=>f
 |.call=>.sT (Ns E)
def Gr:jE:=⟨fun _ _ _=>none,fun _ _ _=>none⟩
def rh:Op->Bool
 |.call c=>match c.callee with|.value _=>true|_=>false
 |_=>false
def q2(P:Program)(op:Op):Option yg:=bif rh op then some .call else match pe P Gr op with
 |some f=>some (.pv f)
 |none=>none
theorem aye{P:Program}{op:Op}{f:o9}(a:rh op=false)(E d:jE):pe P E op=pe P d op:=by
 unfold pe;split<;>first|rfl|(rename_i c;split<;>first|rfl|(rename_i x b;simp[rh,b]at a))
theorem aya{P:Program}{op:Op}{k:yg}(h:q2 P op=some k)(E:jE):pe P E op=some (k.VO E):=by
 unfold q2 at h;cases a:rh op with
 |true=>
  rw[a]at h;simp only[eP,cq]at h;subst h;cases op<;>simp only[rh]at a<;>try cases a
  rename_i c;split at a;rename_i x b;simp[pe,b,yg.VO]
  ·cases a
 |false=>
  rw[a]at h;simp only[jt]at h;split at h;rename_i f d;cases h;rw[aye (f:=f) a E Gr];exact d;cases h
structure ib where
 guard:Option ((S->O)×Bool)
 dst:Option Nat
 aP:List (S->O)
 k:yg
def ib.Ia(E:jE)(c:ib):zQ:=⟨c.guard,c.dst,c.aP,c.k.VO E⟩
def BT(E:jE):yg->List O->aw->Option (O×aw)
 |.pv f,s,h=>zX f s h
 |.call,s,h=>Ns E s h
theorem awD(E:jE)(k:yg):BT E k=zX (k.VO E):=by
 cases k<;>rfl
def ot(E:jE):List ib->S->aw->Option (S×aw)
 |[],s,h=>some (s,h)
 |o::l,s,h=>
  match (match o.guard with|none=>some true|some (x,b)=>Ap (x s) b)with
  |some true=>match BT E o.k (mS o.aP s) h with
   |some (v,a)=>ot E l (ps o.dst v s) a
   |none=>none
  |some false=>ot E l (ps o.dst ql s) h
  |none=>none
theorem aq'(E:jE):∀(l:List ib) (s:S) (h:aw),ot E l s h=EF (l.map (ib.Ia E)) s h
 |[],_,_=>rfl
 |o::l,s,h=>by
  have a:=aq' E l
  simp only[ot,qO,EF,ib.Ia,awD,a]
  rfl
def Ql(E:jE)(rs:List ib):ko:=fun x=>match ot E rs x.s x.h with
 |some (s,h)=>some (.il,⟨s,h,x.jX⟩)
 |none=>none
theorem aHJ(E:jE)(rs:List ib):Ql E rs=Vm (rs.map (ib.Ia E)):=by
 funext x;simp only[Ql,Vm,aq'];rfl
structure qa where
 c:ib
 slots:List Nat
 pre:Nat
def qa.Bd(E:jE)(d:qa):fQ:=⟨d.c.Ia E,d.slots,d.pre⟩
inductive mV where
 |skip
 |exit (id:Nat)
 |ret
 |seq (a b:mV)
 |cond (t:S->O) (a b:mV)
 |block (id:Nat) (a:mV)
 |loop (a:mV)
 |region (rs:List ib)
 |Gj (rs:List qa) (b7:Nat)
 |range (key ay:Nat) (gC:S->O)
 |fail
def ta(E:jE)(n:Nat):mV->ko
 |.skip=>Qy
 |.exit id=>Zv id
 |.ret=>adp
 |.seq a b=>Qv (ta E n a) (ta E n b)
 |.cond t a b=>NC t (ta E n a) (ta E n b)
 |.block id a=>Nd id (ta E n a)
 |.loop a=>En (ta E n a) n
 |.region rs=>Ql E rs
 |.Gj rs c=>NO (rs.map (qa.Bd E)) c
 |.range key ay d=>Qh E key ay d
 |.fail=>Zy
def N8(ay:Nat)(ops:Array Oper):Option (Nat×Bool)->Option (Option ((S->O)×Bool))
 |none=>some none
 |some (j,a)=>match ops[j]? with
  |some o=>match o.dst with
   |some t=>if t<ay then some (some (g t,a))else none
   |none=>none
  |none=>none
def NR(ay:Nat):Option Nat->Bool
 |some t=>decide (t<ay)
 |none=>true
def B1(P:Program)(ay:Nat)(ops:Array Oper)(o:Oper):Option ib:=bif NR ay o.dst then
 match N8 ay ops o.guard,EA ay P.globals.size o.op.operands.toList,q2 P o.op with
 |some d',some aP,some k=>some ⟨d',o.dst,aP,k⟩
 |_,_,_=>none
 else none
def tL(P:Program)(ay:Nat)(ops:Array Oper):List Oper->Option (List ib)
 |[]=>some []
 |o::l=>match B1 P ay ops o,tL P ay ops l with
  |some x,some r=>some (x::r)
  |_,_=>none
def Tl(ops:Array Oper):Option (Nat×Bool)->List Nat
 |none=>[]
 |some (j,_)=>match ops[j]? with
  |some o=>match o.dst with
   |some t=>[t]
   |none=>[]
  |none=>[]
def Hy:List Oper->List Nat->List Nat
 |[],a=>a
 |o::l,a=>Hy l (a++[o.after.toList.foldl (fun r e=>bif Region.binds .any e then r|||(1<<<e.on)|||a.getD e.on 0 else r) 0])
def vh(ops:Array Oper):List Oper->List ib->List Nat->List qa
 |o::l,c::m,p::q=>⟨c,Tl ops o.guard++EJ o.op.operands.toList,p⟩::vh ops l m q
 |_,_,_=>[]
def amS:yg->Bool
 |.pv (.alloc _ _)=>true
 |_=>false
def SU(P:Program)(ay:Nat)(ops:Array Oper):Option mV:=match tL P ay ops ops.toList with
 |some cs=>match vh ops ops.toList cs (Hy ops.toList [])with
  |ds=>bif CG ay ops.toList (ds.map (qa.Bd Gr))&&Nat.beq ds.length cs.length then some (.Gj ds (cs.filter fun c=>amS c.k).length)else none
 |none=>none
def nV:Code->List (Array Tmp×Code×Code)
 |.seq a b=>nV a++nV b
 |.cond _ a b=>nV a++nV b
 |.block _ a=>nV a
 |.loop a=>nV a
 |.rangeFunc _ c a b=>[(c,a,b)]
 |_=>[]
def jW(P:Program)(ay:Nat):Option Nat->Code->Option mV
 |_,.skip=>some .skip
 |_,.label _=>some .skip
 |_,.exit id=>some (.exit id)
 |_,.ret=>some .ret
 |k,.seq a b=>match jW P ay k a,jW P ay (k.map (· +(nV a).length)) b with
  |some x,some y=>some (.seq x y)
  |_,_=>none
 |k,.cond t a b=>match r_ ay P.globals.size t,jW P ay k a,jW P ay (k.map (· +(nV a).length)) b with
  |some t,some x,some y=>some (.cond t x y)
  |_,_,_=>none
 |k,.block id a=>match jW P ay k a with|some x=>some (.block id x)|none=>none
 |k,.loop a=>match jW P ay k a with|some x=>some (.loop x)|none=>none
 |_,.region _ ops false=>match tL P ay ops ops.toList with
  |some cs=>some (.region cs)
  |none=>some .fail
 |_,.region _ ops true=>match SU P ay ops with
  |some c=>some c
  |none=>some .fail
 |some key,.rangeFunc f _ _ _=>match r_ ay P.globals.size f with
  |some d=>some (.range key ay d)
  |none=>none
 |_,_=>some .fail
section
variable {P:Program} {ρ:cd} {E:jE} {ay:Nat}
theorem ajj(g:uO P ρ E){ops:Array Oper}{o:Oper}{c:ib}(h:B1 P ay ops o=some c):Si P ρ ay ops o (c.Ia E):=by
 unfold B1 at h;cases hd:NR ay o.dst with
 |false=>rw[hd]at h;simp at h
 |true=>
  rw[hd]at h;simp only[eP]at h;split at h
  ·rename_i d' aP k an f a;cases h;refine⟨ayf g (aya a E),apI f,rfl,fun t ai=>?_,fun cl i=>?_,?_⟩;rw[ai]at hd;simpa[NR]using hd;rw[i]at a;simp[q2,rh,pe]at a
   ·cases b:o.guard with
    |none=>rw[b]at an;simp[N8]at an;subst an;rfl
    |some e=>
     obtain⟨j,l⟩:=e;rw[b]at an;simp only[N8]at an;split at an;rename_i m d;split at an;rename_i t ai;split at an;rename_i au;cases an;exact⟨t,by simp[d,ai],au,rfl⟩;cases an;cases an;cases an
  cases h
theorem ajl(a:uO P ρ E){ops:Array Oper}:∀{l:List Oper} {cs:List ib},tL P ay ops l=some cs->Sj P ρ ay ops l (cs.map (ib.Ia E))
 |[],cs,h=>by simp[tL]at h;subst h;trivial
 |o::l,cs,h=>by
  simp only[tL]at h
  split at h
  ·rename_i x r b c
   cases h
   exact⟨ajj a b,ajl a c⟩
  ·cases h
theorem ayh{ops:Array Oper}{o:Oper}{c:ib}(h:B1 P ay ops o=some c){slots:List Nat}(d:∀t∈Tl ops o.guard++EJ o.op.operands.toList,t∈slots): (∀x∈c.aP,IP slots x)/\∀x e,c.guard=some (x,e)->IP slots x:=by
 unfold B1 at h;cases hd:NR ay o.dst with
 |false=>rw[hd]at h;simp at h
 |true=>
  rw[hd]at h;simp only[eP]at h;split at h
  ·rename_i d' aP k an l m;cases h;refine⟨apH l fun t ai=>d t (List.mem_append_right _ ai),fun x e b=>?_⟩;cases a:o.guard with
   |none=>rw[a]at an;simp[N8]at an;subst an;cases b
   |some i=>
    obtain⟨j,w⟩:=i;rw[a]at an;simp only[N8]at an;split at an;rename_i p g;split at an;rename_i t ai;split at an;cases an;simp only[cq,iA]at b;obtain⟨rfl,rfl⟩:=b;intro s n f;exact f t (d t (List.mem_append_left _ (by simp[Tl,a,g,ai])));cases an;cases an;cases an
  cases h
theorem ait(d:uO P ρ E){ops:Array Oper}:∀{l:List Oper} {cs:List ib} {a:List Nat},tL P ay ops l=some cs->(vh ops l cs a).length=cs.length->
  C5 P ρ ay ops l ((vh ops l cs a).map (qa.Bd E))
 |[],cs,a,h,_=>by simp[tL]at h;subst h;simp[vh,C5]
 |o::l,cs,a,h,b=>by
  simp only[tL]at h
  split at h
  ·rename_i x r c e
   cases h
   cases a with
   |nil=>simp[vh]at b
   |cons p q=>
    simp only[vh,qO]
    simp only[vh,l7,Nat.add_right_cancel_iff]at b
    have HG:=ayh c (slots:=Tl ops o.guard++EJ o.op.operands.toList) fun _ h=>h
    exact⟨⟨ajj d c,HG.1,HG.2⟩,ait d e b⟩
  ·cases h
theorem aJy{ops:List Oper}{ds:List qa}(E a:jE):CG ay ops (ds.map (qa.Bd E))=CG ay ops (ds.map (qa.Bd a)):=by
 unfold CG;simp only[n4];congr 1;funext i;cases ops[i]? with
 |none=>rfl
 |some o=>
  cases hi:ds[i]? with
  |none=>rfl
  |some d=>
   simp only[n6,qa.Bd,ib.Ia];congr 1;congr 1;congr 1;congr 1;congr 1;funext j;congr 1;congr 1;funext e;cases ds[e.on]? <;>rfl;congr 1;funext j;cases ds[j]? <;>rfl
theorem ax9(b:P.follows .mixedOrders=true)(d:uO P ρ E){B:l9->Prop}{id n:Nat}{ops:Array Oper}{c:mV}(h:SU P ay ops=some c):m4 P ρ ay B (.region id ops true) (ta E n c):=by
 unfold SU at h;split at h
 ·rename_i cs e;simp only at h;cases a:(CG ay ops.toList ((vh ops ops.toList cs (Hy ops.toList [])).map (qa.Bd Gr))&&Nat.beq (vh ops ops.toList cs (Hy ops.toList [])).length cs)with
  |false=>rw[a]at h;simp at h
  |true=>rw[a]at h;simp only[eP,cq]at h;subst h;simp only[dQ]at a;simp only[ta];exact aIC b (ait d e (gx a.2)) (by rw[aJy E Gr];exact a.1)
 cases h
def FQ(ρ:cd)(f:FuncId)(k:Option Nat)(rs:List (Array Tmp×Code×Code)):Prop:=∀key,k=some key->∀i x,rs[i]? =some x->∃l,ρ.pY (key+i)=some l/\l.fn=f/\l.params=x.1/\l.assign=x.2.1/\l.body=x.2.2
variable{f:FuncId}{k:Option Nat}
theorem FQ.left{a b:List (Array Tmp×Code×Code)}(h:FQ ρ f k (a++b)):FQ ρ f k a:=fun key d i x c=>
 h key d i x (by rw[CX (k2.1 c).1];exact c)
theorem FQ.right{a b:List (Array Tmp×Code×Code)}(h:FQ ρ f k (a++b)):FQ ρ f (k.map (· +a.length)) b:=fun key c i x d=>by
 simp only[iz]at c
 obtain⟨e,rfl,rfl⟩:=c
 obtain⟨l,H,I⟩:=h e rfl (a.length+i) x (by rw[Fs z];simpa using d)
 exact⟨l,by rw[kN];exact H,I⟩
theorem Ag(o:P.follows .mixedOrders=true)(j:uO P ρ E){n:Nat}{f:FuncId}{B:l9->Prop}:∀(code:Code) (k:Option Nat) (c:mV),(k≠none->∀b,B b->b.roundOf=none/\b.fn=f)->FQ ρ f k (nV code)->jW P ay k code=some c->m4 P ρ ay B code (ta E n c)
 |.skip,k,c,i,g,h=>by simp only[jW,cq]at h;subst h;exact aIK
 |.label l,k,c,i,g,h=>by simp only[jW,cq]at h;subst h;exact aIE
 |.exit id,k,c,i,g,h=>by simp only[jW,cq]at h;subst h;exact aID
 |.ret,k,c,i,g,h=>by simp only[jW,cq]at h;subst h;exact aII
 |.seq a b,k,c,i,g,h=>by
  simp only[jW]at h
  split at h
  ·rename_i x y m r
   cases h
   simp only[nV]at g
   exact aIJ (Ag o j a k x i g.left m) (Ag o j b _ y (fun q=>i (fun e=>q (by rw[e];rfl))) g.right r)
  ·cases h
 |.cond t a b,k,c,i,g,h=>by
  simp only[jW]at h
  split at h
  ·rename_i J x y ai m r
   cases h
   simp only[nV]at g
   exact aIB (ac5 ai) (Ag o j a k x i g.left m) (Ag o j b _ y (fun q=>i (fun e=>q (by rw[e];rfl))) g.right r)
  ·cases h
 |.block id a,k,c,i,g,h=>by
  simp only[jW]at h
  split at h
  ·rename_i x m
   cases h
   exact aIA (Ag o j a k x i g m)
  ·cases h
 |.loop a,k,c,i,g,h=>by
  simp only[jW]at h
  split at h
  ·rename_i x m
   cases h
   exact aIF (Ag o j a k x i g m) n
  ·cases h
 |.region id ops d,k,c,i,g,h=>by
  cases d with
  |false=>
   simp only[jW]at h
   split at h
   ·rename_i cs C
    cases h
    simp only[ta,aHJ]
    exact aIH (ajl j C)
   ·cases h;exact Lh
  |true=>
   simp only[jW]at h
   split at h
   ·rename_i L F
    cases h
    exact ax9 o j F
   ·cases h;exact Lh
 |.rangeFunc G D a b,k,c,i,g,h=>by
  cases k with
  |none=>simp only[jW,cq]at h;subst h;exact Lh
  |some key=>
   simp only[jW]at h
   split at h
   ·rename_i M s
    cases h
    obtain⟨l,H,I,w,u,z⟩:=g key rfl 0 (D,a,b) rfl
    exact aIG j (fun b A=>by rw[I];exact i ao b A) H w u z (ac5 s)
   ·cases h
 |.scope a,k,c,i,g,h=>by simp only[jW,cq]at h;subst h;exact Lh
 |.goto l,k,c,i,g,h=>by simp only[jW,cq]at h;subst h;exact Lh
 |.refuse K,k,c,i,g,h=>by simp only[jW,cq]at h;subst h;exact Lh
end
end Go.cv
namespace Go.cv
open Go.Proofs.Tryz
structure qb where
 ay:Nat
 rs:List sw
 c:mV
def B2(P:Program)(ay:Nat):List ResultVar->Option (List sw)
 |[]=>some []
 |.tmp t::l=>if t<ay then(match B2 P ay l with|some r=>some (.tmp t::r)|none=>none)else none
 |.cell b t::l=>if b<ay then(match P.underlying t,P.info? t,B2 P ay l with
  |some d,some i,some r=>some (.cell b (vd d) i.size::r)
  |_,_,_=>none)else none
def keyOf(f:FuncId):Nat:=f*64
def JF(P:Program)(f:FuncId):Option qb:=match P.funcs[f]? with
 |some fn=>match fn.body with
  |some body=>bif (fn.name != "runtime.NumGoroutine")&&Nat.ble fn.ntmps 256&&Nat.ble (nV body).length 64 then
    match B2 P fn.ntmps fn.results.toList,jW P fn.ntmps (some (keyOf f)) body with
    |some rs,some c=>some ⟨fn.ntmps,rs,c⟩
    |_,_=>none
   else none
  |none=>none
 |none=>none
def Vf(P:Program)(key:Nat):Option (Nat×Array Tmp×Code×Code):=match P.funcs[key/64]? with
 |some fn=>match fn.body with
  |some body=>match (nV body)[key%64]? with
   |some x=>some (fn.ntmps,x)
   |none=>none
  |none=>none
 |none=>none
def ni(P:Program)(key:Nat):Option Loop:=match Vf P key with
 |some (_,c,a,b)=>some {state:=.ready,pending:=none,fn:=key/64,tmps:=#[],params:=c,assign:=a,body:=b,defers:=0}
 |none=>none
structure Bx where
 ay:Nat
 params:List Nat
 a:mV
 b:mV
def ajh(P:Program)(key:Nat):Option Bx:=match Vf P key with
 |some (ay,c,a,b)=>bif c.toList.all (fun t=>decide (t<ay))then
   match jW P ay none a,jW P ay none b with
   |some x,some y=>some ⟨ay,c.toList,x,y⟩
   |_,_=>none
  else none
 |none=>none
abbrev C7:=FuncId->Option (List O->aw->Option (O×aw))
def UF(P:Program)(E:jE)(n:Nat)(key:Nat):Option Sa:=match ajh P key with
 |some l=>some ⟨l.ay,l.params,ta E n l.a,ta E n l.b⟩
 |none=>none
section
variable {P:Program} {ρ:cd} {E:jE}
theorem SW{ay:Nat}:∀{l:List ResultVar} {rs:List sw},B2 P ay l=some rs->MR P ay l rs
 |[],rs,h=>by simp[B2]at h;subst h;trivial
 |.tmp t::l,rs,h=>by
  simp only[B2]at h
  split at h
  ·rename_i au
   split at h
   ·rename_i r a;cases h;exact⟨⟨rfl,au⟩,SW a⟩
   ·cases h
  ·cases h
 |.cell b t::l,rs,h=>by
  simp only[B2]at h
  split at h
  ·rename_i au
   split at h
   ·rename_i d i r hd hi a;cases h;exact⟨⟨rfl,au,d,i,hd,hi,rfl,rfl⟩,SW a⟩
   ·cases h
  ·cases h
variable{f:FuncId}{d:qb}
theorem ax'(o:P.follows .mixedOrders=true)(r:ρ.pY=ni P)(p:uO P ρ E)(h:JF P f=some d)(n:Nat):nw P ρ f (DI d.ay d.rs (ta E n d.c)):=by
 unfold JF at h;split at h
 ·rename_i fn k;split at h
  ·rename_i body A;cases e:((fn.name != "runtime.NumGoroutine")&&Nat.ble fn.ntmps 256&&Nat.ble (nV body).length 64)with
   |false=>rw[e]at h;simp at h
   |true=>
    rw[e]at h;simp only[eP]at h;simp only[dQ]at e;obtain⟨⟨H,I⟩,j⟩:=e;have j:=hH j;split at h
    ·rename_i rs c t q;cases h;refine azs k A (by simpa using H) rfl (hH I) (SW t) (B:=fun b=>b.roundOf=none/\b.fn=f) ⟨rfl,rfl⟩ (Ag o p (f:=f) body (some (keyOf f)) c (fun _ b A=>A) ?_ q);intro key l i x g;cases l;have hi:i<(nV body).length:=(k2.1 g).1;have aj:(keyOf f+i)/64=f:=by unfold keyOf;omega
     have m:(keyOf f+i)%64=i:=by unfold keyOf;omega
     obtain⟨s,a,b⟩:=x;refine⟨{state:=.ready,pending:=none,fn:=f,tmps:=#[],params:=s,assign:=a,body:=b,defers:=0},?_,rfl,rfl,rfl,rfl⟩;rw[r];simp only[ni,Vf,aj,m,k,A,g]
    cases h
  cases h
 cases h
theorem aD1(j:P.follows .mixedOrders=true)(q:ρ.pY=ni P)(k:uO P ρ E)(n:Nat):ahc P ρ (UF P E n):=by
 refine⟨fun key s l d i=>?_⟩;rw[q]at i;unfold UF at d;split at d
 ·rename_i cl c;cases d;unfold ajh at c;split at c
  ·rename_i ay r a b p;cases g:r.toList.all (fun t=>decide (t<ay))with
   |false=>rw[g]at c;simp at c
   |true=>
    rw[g]at c;simp only[eP]at c;split at c;rename_i x y m o;cases c;simp only[ni,p,cq]at i;subst i;refine⟨rfl,fun t ai=>?_,Ag j k (f:=0) a none x (fun h=>(h rfl).elim) (fun key e=>by cases e) m,Ag j k (f:=0) b none y (fun h=>(h rfl).elim) (fun key e=>by cases e) o⟩;simpa using h6.1 g t ai;cases c
  cases c
 cases d
end
section
variable {P:Program} {ρ:cd}
theorem azr{f:FuncId}{fn:Func}{body:Code}{ay:Nat}{rs:List sw}{F:ko}(z:P.funcs[f]? =some fn)(A:fn.body=some body)(G:fn.ntmps=ay)(dK:ay<=256)(vF:MR P ay fn.results.toList rs) {B:l9->Prop}(bk:B ⟨f,.normal,none⟩)(Z:m4 P ρ ay B body F){σ:b6}{args:List O}{h:aw}{v:O}{n:aw}{cs:List Value}{w:World}(an:kA P σ)(jx:bY ρ σ args=some cs)(W:cZ ρ σ h w)(J:DI ay rs F args h=some (v,n)): Calls P f cs.toArray w fun e w'=>∃c,e=.returned c/\qT ρ σ h w v n c w':=by
 unfold DI at J;cases r:Nat.ble args.length ay with
 |false=>rw[r]at J;simp at J
 |true=>
  rw[r]at J;simp only[eP]at J;have N:=hH r;intro g;have S:Frame.enter P f cs.toArray .normal=fr ⟨f,.normal,none⟩ (cs.toArray++Array.replicate (ay-cs.toArray.size) undef) [] [.code body]:=by simp[Frame.enter,fr,z,A,G]
  rw[S];have e2:Ds P ρ ay σ ⟨xC args 0 bP,h,[]⟩ (cs.toArray++Array.replicate (ay-cs.toArray.size) undef) [] w:=⟨.start jx N dK,W,rfl,an⟩;have E:∀(e:X) (x:gH),(∀id,e≠ .exit id)->F ⟨xC args 0 bP,h,[]⟩=some (e,x)->DG rs x=some (v,n)->
    ∃(e:Ending) (w':World) (q:Frame),(∃c,e=.returned c/\qT ρ σ h w v n c w')/\Comes P (lone (fr ⟨f,.normal,none⟩ (cs.toArray++Array.replicate (ay-cs.toArray.size) undef) [] [.code body]) g w) (lone q g w') e/\q.fn=f/\q.leaving P w' e:=fun e x Y j d=>by
   obtain⟨D,bW,nK,U,o,Q,bZ⟩:=Z σ _ e x j ⟨f,.normal,none⟩ bk [] g _ [] w e2;have R:∃todo,Steps P (lone (fr ⟨f,.normal,none⟩ (cs.toArray++Array.replicate (ay-cs.toArray.size) undef) [] [.code body]) g w) (lone (yq ⟨f,.normal,none⟩ bW nK todo) g U):=by
    cases e with
    |il=>exact⟨[],tj bZ (.one (arN rfl))⟩
    |exit id=>exact(Y id rfl).elim
    |ret=>obtain⟨dF,cp⟩:=bZ;exact⟨.code .ret::dF,tj cp (.one (arQ rfl))⟩
   obtain⟨todo,hz⟩:=R;unfold DG at d;split at d
   ·rename_i I L;obtain⟨i,t,cr,ej⟩:=aep (P:=P) (b:=⟨f,.normal,none⟩) (a:=bW) (k:=todo) (cs:=g) L o.d o.h;split at d
    ·rename_i vs T;simp only[cq,iA]at d;obtain⟨rfl,rfl⟩:=d;obtain⟨s,u1,u2⟩:=ado o.g o.s t vF T;have de:=m6 u1;have V:(fn.results.mapM (La bW):Sem (Array Value)).run P i=.ok s.toArray i:=by rw[aeQ];simp only[ae1];rw[u2];rfl
     have d:∃u,aN ρ D (Hs vs)=some u/\(results fn bW).run P i=.ok u i:=by
      rw[aqO];simp only[eZ];rw[V];simp only[eW,fJ]
      match vs,s,u1,de with
      |[y],[u],u1,_=>obtain⟨C,M,cg⟩:=iT u1;cases cg;exact⟨u,M,ao⟩
      |[],[],u1,_=>exact⟨.tuple #[],by simp[Hs,aN,bY],ao⟩
      |y::mu::l,u::C::m,u1,_=>exact⟨.tuple (u::C::m).toArray,by simp[Hs,aN,u1],ao⟩
     obtain⟨u,H,K⟩:=d;exact⟨.returned u,i,_,⟨u,rfl,D,H,t,Q.trans cr⟩,tj hz ej,rfl,⟨rfl,rfl,rfl,fn,z,K⟩⟩
    ·cases d
   ·cases d
  split at J
  ·rename_i x j;exact E .il x (fun id aj=>by cases aj) j J
  ·rename_i x j;exact E .ret x (fun id aj=>by cases aj) j J
  ·cases J
theorem ax_(q:P.follows .mixedOrders=true)(u:ρ.pY=ni P){E:jE}(s:uO P ρ E){f:FuncId}{d:qb}(h:JF P f=some d)(n:Nat){σ:b6}{args:List O}{ag:aw}{v:O}{l:aw}{cs:List Value}{w:World}(an:kA P σ)(y:bY ρ σ args=some cs)(r:cZ ρ σ ag w)(J:DI d.ay d.rs (ta E n d.c) args ag=some (v,l)): Calls P f cs.toArray w fun e w'=>∃c,e=.returned c/\qT ρ σ ag w v l c w':=by
 unfold JF at h;split at h
 ·rename_i fn m;split at h
  ·rename_i body A;cases g:((fn.name != "runtime.NumGoroutine")&&Nat.ble fn.ntmps 256&&Nat.ble (nV body).length 64)with
   |false=>rw[g]at h;simp at h
   |true=>
    rw[g]at h;simp only[eP]at h;simp only[dQ]at g;obtain⟨⟨H,I⟩,k⟩:=g;have k:=hH k;split at h
    ·rename_i rs c C t;cases h;refine azr m A rfl (hH I) (SW C) (B:=fun b=>b.roundOf=none/\b.fn=f) ⟨rfl,rfl⟩ (Ag q s (f:=f) body (some (keyOf f)) c (fun _ b A=>A) ?_ t) an y r J;intro key o i x j;cases o;have hi:i<(nV body).length:=(k2.1 j).1;have aj:(keyOf f+i)/64=f:=by unfold keyOf;omega
     have p:(keyOf f+i)%64=i:=by unfold keyOf;omega
     obtain⟨z,a,b⟩:=x;refine⟨{state:=.ready,pending:=none,fn:=f,tmps:=#[],params:=z,assign:=a,body:=b,defers:=0},?_,rfl,rfl,rfl,rfl⟩;rw[u];simp only[ni,Vf,aj,p,m,A,j]
    ·cases h
  ·cases h
 ·cases h
end
end Go.cv
