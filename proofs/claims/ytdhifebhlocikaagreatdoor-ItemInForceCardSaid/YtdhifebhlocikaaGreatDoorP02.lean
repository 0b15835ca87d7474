/- ItemInForce, one part of the proof. -/
import Derived.Test.YtdhifebhlocikaaGreatDoorP01
set_option linter.all false
set_option maxRecDepth 100000
set_option maxHeartbeats 16000000
namespace Go.cE
section
variable {P:Program} {ρ:cj}
def Bc(x:U)(y:Nat):Option Nat:=match x with
 |.int _ (.ofNat m)=>bif Nat.ble m y then some m else none
 |_=>none
variable{c:Φ}{w:Γ}
def IV{σ:b9}{x:U}{y m:Nat}{code:BoundsCode}(h:Bc x y=some m)(b:aT ρ σ x=some c):m<=y/\(Instr.sliceBound c y code).run P w=.ok m w:=by
 unfold Bc at h;split at h
 .rename_i k n;cases G:Nat.ble n y with
  |false=>simp[G]at h
  |true=>have a:=hZ G;simp[G]at h;subst h;obtain rfl:=o0 b;refine⟨a,?_⟩;simp[Instr.sliceBound,asIntOf,a]
 cases h
def qI(b a:Bool)(len cap:Nat):List U->Option (Nat×Nat)
 |[]=>bif b||a then none else some (0,len)
 |[x]=>bif b then(bif a then none else match Bc x len with|some l=>some (l,len)|none=>none)
  else(bif a then match Bc x cap with|some h=>some (0,h)|none=>none else none)
 |[x,y]=>bif b&&a then match Bc y cap with
   |some h=>match Bc x h with|some l=>some (l,h)|none=>none
   |none=>none
  else none
 |_=>none
variable{eo hi:Option Operand}{cap:Nat}
def Sy{σ:b9}{isSlice:Bool}{a:Ω}{len g l h:Nat}{vs:List U}(G:qI eo.isSome hi.isSome len g vs=some (l,h))(q:g<=cap) (e:b5 ρ σ vs=some ((eo.toArray++hi.toArray).toList.map (eC a))):l<=h/\(h<=g∨h=len)/\(Instr.sliceBounds isSlice len cap (eo.map (eC a)) (hi.map (eC a)) none).run P w=.ok (l,h,cap) w:=by
 have HG:∀{x:U} {m:Nat},Bc x g=some m->Bc x cap=some m:=λ{x m} f=>by
  unfold Bc at f|-;split at f
  .rename_i k n;cases o:Nat.ble n g with
   |false=>simp[o]at f
   |true=>have:=hZ o;simp[o]at f;subst f;rw[Wk (c6 this q)];rfl
  cases f
 cases eo with
 |none=>
  cases hi with
  |none=>
   cases vs with
   |nil=>simp[qI]at G;obtain⟨rfl,rfl⟩:=G;exact⟨dh _,.inr rfl,by simp[Instr.sliceBounds]⟩
   |cons v vs=>cases vs with
    |nil=>simp[qI]at G
    |cons u vs=>cases vs<;>simp[qI]at G
  |some hi=>
   cases vs with
   |nil=>simp[qI]at G
   |cons v vs=>cases vs with
    |nil=>
     simp only[qI,afO,afP,jL,eZ]at G;split at G;rename_i m b;cases G;simp at e;let⟨c,H,I⟩:=i' e;simp at I;subst I;let⟨i,_⟩:=IV (P:=P) (w:=w) (code:=.sliceAcap) b H;let⟨_,j⟩:=IV (P:=P) (w:=w) (code:=if isSlice then .sliceAcap else .sliceAlen) (HG b) H;exact⟨dh _,.inl i,by simp[Instr.sliceBounds,j]⟩
     .cases G
    |cons u vs=>cases vs<;>simp[qI]at G
 |some eo=>
  cases hi with
  |none=>
   cases vs with
   |nil=>simp[qI]at G
   |cons v vs=>cases vs with
    |nil=>
     simp only[qI,afO,afP,jL,eZ]at G;split at G;rename_i m b;cases G;simp at e;let⟨c,H,I⟩:=i' e;simp at I;subst I;let⟨i,j⟩:=IV (P:=P) (w:=w) (code:=.sliceB) b H;exact⟨i,.inr rfl,by simp[Instr.sliceBounds,j]⟩
     .cases G
    |cons u vs=>cases vs<;>simp[qI]at G
  |some hi=>
   cases vs with
   |nil=>simp[qI]at G
   |cons v vs=>cases vs with
    |nil=>simp[qI]at G
    |cons u vs=>cases vs with
     |nil=>
      simp only[qI,afP,Bool.and_self,eZ]at G;split at G;rename_i m b;split at G;rename_i n r;cases G;simp at e;let⟨c,d,H,I,p⟩:=lY e;simp at p;obtain⟨rfl,rfl⟩:=p;let⟨i,_⟩:=IV (P:=P) (w:=w) (code:=.sliceAcap) b I;let⟨_,j⟩:=IV (P:=P) (w:=w) (code:=if isSlice then .sliceAcap else .sliceAlen) (HG b) I;let⟨s,t⟩:=IV (P:=P) (w:=w) (code:=.sliceB) r H;exact⟨s,.inl i,by simp[Instr.sliceBounds,j,t]⟩;cases G
      .cases G
     |cons ai vs=>simp[qI]at G
def adr(b a:Bool):List U->Option U
 |.str s::r=>match qI b a s.length s.length r with
  |some (l,h)=>Qe ((s.take h).drop l) λq=>some (.str q)
  |none=>none
 |_=>none
def aF9{s:List Nat}(h:kY s)(a b:Nat):kY ((s.take b).drop a):=by unfold kY at*;rw[iq]at*;intro x c;exact h x (Lf (afF c))
def aiy(s:List Nat)(a b:Nat):(e2 s).extract a b=e2 ((s.take b).drop a):=by apply KY;simp[e2,atd,List.map_drop,Wi,List.drop_take]
variable{o:Oper}{t:TypeId}
def aJk{x:Operand}(h:o.op=.slice t x eo hi none)(hu:P.underlying t=some .string):m1 P ρ o (adr eo.isSome hi.isSome):=by
 intro σ s a w v ar f J;unfold adr at J;split at J
 .rename_i str r;split at J
  .rename_i l d G;rw[adG]at J;cases J;let⟨c,k,e,b,aP⟩:=qK f;obtain⟨ok,rfl⟩:=us e;have j:gf o a=eC a x::((eo.toArray++hi.toArray).toList.map (eC a)):=by simp[gf,h,Op.operands]
   rw[j]at aP;simp only[qs]at aP;let⟨ak,g⟩:=aP;rw[<-g]at b;let⟨m,n,i⟩:=Sy (P:=P) (w:=w) (isSlice:=false) (len:=str.length) (cap:=str.length) G (aY _) b;refine⟨_,ai0 (aF9 ok l d),?_⟩;have dL:(Instr.sliceAt t (.string (e2 str)) (eo.map (eC a)) (hi.map (eC a)) none).run P w=.ok (.string (e2 ((str.take d).drop l))) w:=by simp only[Instr.sliceAt,e7,h_ hu,eY,Instr.slice,MR,i,afO,re,pZ,fI,aiy]
   exact ao2
  cases J
 cases J
def IY(h:ay)(b off esz:Nat)(cap:Option Nat):Option (Nat×Bool):=match cap with
 |some c=>some (c,true)
 |none=>match h.cW b with
  |some (.cells _ vs a _)=>some (Nat.div (vs.length-off) esz,a)
  |_=>none
def Yi{σ:b9}{h:ay}{w:Γ}{b off esz:Nat}{cap:Option Nat}{c:Nat}{s_:Bool}{p:nT}(f:c_ ρ σ h w)(ag:σ b=some p)(a:IY h b off esz cap=some (c,s_)):c<=jP p off esz cap/\(s_=true->c=jP p off esz cap):=by
 cases cap with
 |some j=>simp[IY]at a;obtain⟨rfl,rfl⟩:=a;exact⟨aY _,λ_=>rfl⟩
 |none=>
  simp only[IY]at a;split at a;rename_i elem vs k wr G;simp at a;obtain⟨rfl,rfl⟩:=a;let⟨e,arr,bd,cs,g,H,I,i,d,_⟩:=f.cells G;obtain rfl:p=e:=gm (ag.symm.trans g);refine⟨atD z,λaj=>?_⟩;show(vs.length-off)/esz=(p.tot-off)/esz;rw[(d aj).1];cases a
def adH(l:Nat):Option Nat->Option Nat
 |some k=>some (k-l)
 |none=>none
def adt(esz:Nat)(f d:Bool):List U->ay->Option U
 |.slice b off len e cap::r,h=>bif Nat.beq e esz&&Nat.blt 0 esz then match IY h b off esz cap with
  |some (c,s_)=>match qI f d len c r with
   |some (l,a)=>bif Nat.ble a c then
     (bif Nat.blt l c||Nat.beq l 0 then
      wo (off+l*esz) λg=>wo (a-l) λn'=>some (.slice b g n' esz (adH l cap))
     else bif s_ then some (.slice b off 0 esz (some 0))else bif cap.isNone then some (.lZ b off l esz)else none)
    else none
   |none=>none
  |none=>none
  else none
 |.dM::r,_=>match qI f d 0 0 r with
  |some (0,0)=>some .dM
  |_=>none
 |_,_=>none
variable{e:TypeId}
def aJl{x:Operand}(h:o.op=.slice t x eo hi none){d:TypeInfo}(hu:P.underlying t=some (.slice e))(D:P.info? e=some d):AZ P ρ o (adt d.size eo.isSome hi.isSome):=by
 intro σ s V a w v ar m L J;have S:gf o a=eC a x::((eo.toArray++hi.toArray).toList.map (eC a)):=by simp[gf,h,Op.operands]
 rw[S]at m;unfold adt at J;split at J
 .rename_i b off len N cap r;cases g:(Nat.beq N d.size&&Nat.blt 0 d.size)with
  |false=>rw[g]at J;simp at J
  |true=>
   rw[g]at J;simp only[eZ]at J;simp only[dW]at g;have R:=gK g.1;subst R;have W:0<d.size:=by simpa using g.2
   split at J
   .rename_i c s_ H;split at J
    .rename_i l I G;cases z:Nat.ble I c with
     |false=>rw[z]at J;simp at J
     |true=>
      have T:=hZ z;rw[z]at J;simp only[eZ]at J;let⟨c1,F,j,f,aP⟩:=qK m;simp only[qs]at aP;let⟨ak,n⟩:=aP;obtain⟨p,ag,rfl⟩:=zr j;let⟨bN,dx⟩:=Yi L ag H;rw[<-n]at f;let⟨M,O,A⟩:=Sy (P:=P) (w:=w) (isSlice:=true) (len:=len) (cap:=jP p off d.size cap) G bN f;have dL:(Instr.sliceAt t (.slice (some ⟨p.ba,p.del+off,none⟩) len (jP p off d.size cap)) (eo.map (eC a)) (hi.map (eC a)) none).run P w=
        .ok (.slice (if jP p off d.size cap=l then some ⟨p.ba,p.del+off,none⟩else some ⟨p.ba,p.del+off+l*d.size,none⟩) (I-l) (jP p off d.size cap-l)) w:=by
       simp only[Instr.sliceAt,e7,h_ hu,eY,Instr.slice,A,qo D,fI,ov,zg]
      have B:∀(y:U) (u:Φ),aT ρ σ y=some u->u=(.slice (if jP p off d.size cap=l then some ⟨p.ba,p.del+off,none⟩else some ⟨p.ba,p.del+off+l*d.size,none⟩) (I-l) (jP p off d.size cap-l))->
        ∃c,aT ρ σ y=some c/\(execOp (eC a) o).run P w=.ok (.value c) w:=λy u K E=>by
       refine⟨u,K,?_⟩;rw[E];simp only[execOp,h,ak,e7,afQ,dL,eY,fI]
      cases aj:(Nat.blt l c||Nat.beq l 0)with
      |true=>
       rw[aj]at J;simp only[eZ,Aq,cx]at J;subst J;have i:jP p off d.size cap≠l∨l=0:=by
        simp only[Q2]at aj;rcases aj with aj|aj
        .left;have:l<c:=by simpa using aj
         omega
        right;exact gK aj
       have Q:jP p (off+l*d.size) d.size (adH l cap)=jP p off d.size cap-l:=by
        cases cap with
        |some k=>rfl
        |none=>simp only[jP,adH];rw[<-Nat.sub_sub,H9 l,Nat.sub_mul_div]
       refine B _ (.slice (some ⟨p.ba,p.del+(off+l*d.size),none⟩) (I-l) (jP p off d.size cap-l)) (by simp only[aT,ag,ov,Q]) ?_;rcases i with i|i
       rw[bo i,k4]
       .subst i;simp
      |false=>
       rw[aj]at J;simp only[jL]at J;cases s_ with
       |false=>
        simp only[jL]at J;cases cap with
        |some _=>simp at J
        |none=>
         simp at J;subst J;have C:I-l=0:=by
          rw[Q1]at aj;have:¬l<c:=λau=>by
            have q:Nat.blt l c=true:=by simpa using au
            rw[q]at aj;cases aj.1
          omega
         refine B _ _ (by simp only[aT,ag,ov];rfl) ?_;rw[C];split;simp
         .simp[k4]
       |true=>
        simp at J;subst J;have C:l=jP p off d.size cap:=by
         rw[Q1]at aj;have:¬l<c:=λau=>by
           have q:Nat.blt l c=true:=by simpa using au
           rw[q]at aj;cases aj.1
         have:=dx rfl;omega
        refine B _ (.slice (some ⟨p.ba,p.del+off,none⟩) 0 0) (by simp[aT,ag,jP]) ?_;rw[ci C.symm];congr 1<;>omega
    cases J
   cases J
 .rename_i r;split at J
  .rename_i G;cases J;let⟨c1,F,j,f,aP⟩:=qK m;simp only[qs]at aP;let⟨ak,n⟩:=aP;simp only[aT,cx]at j;subst j;rw[<-n]at f;let⟨M,O,A⟩:=Sy (P:=P) (w:=w) (isSlice:=true) (len:=0) (cap:=0) G (aY _) f;refine⟨_,rfl,?_⟩;have dL:(Instr.sliceAt t (.slice none 0 0) (eo.map (eC a)) (hi.map (eC a)) none).run P w=.ok (.slice none 0 0) w:=by simp only[Instr.sliceAt,e7,h_ hu,eY,Instr.slice,A,qo D,fI,afQ];simp
   exact ao2
  cases J
 cases J
end
section
variable {P:Program} {ρ:cj}
def c_.rename{σ:b9}{h:ay}{w:Γ}(r:c_ ρ σ h w){b:Nat}{p q:nT}{i x:eK}(G:h.cW b=some i)(ag:σ b=some p)(K:b<eG)(L:h.nx<eG){o:Obj}(au:p.ba<w.heap.size)(s:q.ba=p.ba) (M:kA ρ (ea σ h.nx q) q (some o) x):c_ ρ (ea σ h.nx q) ((h.db b none).add x) (gZ w p.ba o)/\jY σ h w (ea σ h.nx q) ((h.db b none).add x) (gZ w p.ba o):=by
 have J:=r.kn h.nx (aY _);have Q:b≠h.nx:=λe=>by rw[e,J]at ag;cases ag
 have A:∀j,((h.db b none).add x).cW j=if j=h.nx then some x else if j=b then none else h.cW j:=λj=>by rw[ay.S' _ _ _ (show(h.db b none).nx<eG from L),ay.vJ h b j none K];rfl
 have t:mV σ (ea σ h.nx q):=.db J;have pf:∀j y f,j≠b->h.cW j=some y->σ j=some f->(gZ w p.ba o).heap[f.ba]? =w.heap[f.ba]? :=λj y f e a g=>by have:=r.inj j b y i f p a G g ag e;exact ab4
 refine⟨⟨λj y a=>?_,λj m y F D E a d n l u=>?_,λj a=>?_⟩,?_⟩
 .rw[A]at a;by_cases e:j=h.nx
  .subst e;rw[ci rfl]at a;cases a;exact⟨q,by simp[ea],by rw[s,adi au];exact M⟩
  .rw[bo e]at a;by_cases c:j=b
   .rw[ci c]at a;cases a
   .rw[bo c]at a;obtain⟨f,g,N⟩:=r.ba j y a;exact⟨f,t _ _ g,by rw[pf j y f c a g];exact N.ext t⟩
 .rw[A]at a d;by_cases e:j=h.nx
  .subst e;simp only[ea,ci,cx]at n;subst n;rw[bo (it u)]at d;simp only[ea,bo (it u)]at l;by_cases c:m=b
   .rw[ci c]at d;cases d
   .rw[bo c]at d;rw[s];exact λe=>r.inj m b F i E p d G l ag c e.symm
  .rw[bo e]at a;simp only[ea,bo e]at n;by_cases bX:j=b
   .rw[ci bX]at a;cases a
   .rw[bo bX]at a;by_cases c:m=h.nx
    .subst c;simp only[ea,ci,cx]at l;subst l;rw[s];exact r.inj j b y i D p a G n ag bX
    .rw[bo c]at d;simp only[ea,bo c]at l;by_cases C:m=b
     .rw[ci C]at d;cases d
     .rw[bo C]at d;exact r.inj j m y F D E a d n l u
 .have a:h.nx+1<=j:=a;rw[ea,bo z];exact r.kn j z
 .refine⟨t,λj H I=>?_,rj _,by simp[gZ],λk R O=>?_,λk ⟨j,y,f,a,g,e⟩=>?_,rfl,rfl,rfl⟩
  .by_cases e:j=h.nx
   .omega
   .rw[ea,bo e]at I;exact(I H).elim
  .have:p.ba≠k:=λe=>O ⟨b,i,p,G,ag,e⟩;simp[gZ,AB,this]
  .rw[A]at a;by_cases ak:j=h.nx
   .subst ak;simp only[ea,ci,cx]at g;subst g;exact .inr ⟨b,i,p,G,ag,s▸e⟩
   .rw[bo ak]at a;simp only[ea,bo ak]at g;by_cases B:j=b
    .rw[ci B]at a;cases a
    .rw[bo B]at a;exact .inr ⟨j,y,f,a,g,e⟩
def c_.drop{σ:b9}{h:ay}{w:Γ}(r:c_ ρ σ h w){b:Nat}(g:b<eG):c_ ρ σ (h.db b none) w/\jY σ h w σ (h.db b none) w:=by
 have m:=λj=>ay.vJ h b j none g;have sub:∀j y,(h.db b none).cW j=some y->h.cW j=some y:=λj y a=>by rw[m]at a;split at a;{cases a};{exact a}
 exact⟨⟨λj y a=>r.ba j y (sub j y a),λj c y d q l a i=>r.inj j c y d q l (sub j y a) (sub c d i),λj a=>r.kn j a⟩,
  ⟨.refl _,λ_ H I=>(I H).elim,aY _,aY _,λ_ _ _=>rfl,λk ⟨j,y,q,a,f,e⟩=>.inr ⟨j,y,q,sub j y a,f,e⟩,rfl,rfl,rfl⟩⟩
def Vr(esz:Nat)(h:ay):U->Option (Nat×List U)
 |.slice b o n e _=>bif Nat.beq n 0 then some (0,[])else bif Nat.beq e esz then match h.cW b with
  |some (.cells _ vs _ _)=>bif Nat.ble (o+n*esz) vs.length then some (n,(vs.drop o).take (n*esz))else none
  |_=>none
  else none
 |.dM=>some (0,[])
 |.lZ _ _ _ _=>some (0,[])
 |.str s=>bif Nat.beq esz 1 then some (s.length,s.map λb=>.int .u8 (.ofNat b))else none
 |_=>none
def aiZ{σ:b9}:∀{s:List Nat},kY s->b5 ρ σ (s.map λb=>.int .u8 (.ofNat b))=some ((s.map UInt8.ofNat).map λb=>.int .u8 (b.toNat:Int))
 |[],_=>rfl
 |a::l,h=>by let⟨H,I⟩:=PK h;simp only[qu,b5,aT,aiZ I];(have:(UInt8.ofNat a).toNat=a:=by rw[VN];exact AL H);rw[this];rfl
def adx{σ:b9}{h:ay}{w:Γ}(u:c_ ρ σ h w){esz n:Nat}{x:U}{c:Φ}{l:List U}(a:Vr esz h x=some (n,l))(d:aT ρ σ x=some c): (Builtin.lenOf c).run P w=.ok n w/\l.length=n*esz/\∀k,k<=n->∃q,b5 ρ σ (l.take (k*esz))=some q/\(Builtin.firstCells esz k c).run P w=.ok q.toArray w:=by
 unfold Vr at a;split at a
 .rename_i b o m e cap;obtain⟨p,ag,rfl⟩:=zr d;cases af:Nat.beq m 0 with
  |true=>rw[af]at a;simp at a;obtain⟨rfl,rfl⟩:=a;have:=gK af;subst this;refine⟨by simp[Builtin.lenOf],aq,λk f=>⟨[],by simp[b5],?_⟩⟩;have:k=0:=z;subst this;simp[Builtin.firstCells,loadCells,loadCellsFrom]
  |false=>
   rw[af]at a;simp only[jL]at a;cases aP:Nat.beq e esz with
   |false=>rw[aP]at a;simp at a
   |true=>
    rw[aP]at a;simp only[eZ]at a;split at a
    .rename_i elem vs J wr G;cases g:Nat.ble (o+m*esz) vs with
     |false=>rw[g]at a;simp at a
     |true=>have E:=hZ g;rw[g]at a;simp at a;obtain⟨rfl,rfl⟩:=a;obtain⟨t,arr,bd,cs,y,H,I,D,C,i,A,_⟩:=u.cells G;obtain rfl:p=t:=gm (ag.symm.trans y);have F:=nu i;refine⟨by simp[Builtin.lenOf],bw,λk f=>?_⟩;have B:k*esz<=m*esz:=rm _ f;refine⟨((cs.drop o).take (m*esz)).take (k*esz),ur _ (ur _ (vF _ i)),?_⟩;simp only[Builtin.firstCells];refine P3 p.ba (p.del+o) (k*esz) _ bw λj r=>?_;rw[k4,A (o+j) z];simp[pk,r,show j<m*esz by omega]
    .cases a
 .simp at a;obtain⟨rfl,rfl⟩:=a;simp only[aT,cx]at d;subst d;refine⟨by simp[Builtin.lenOf],aq,λk f=>⟨[],by simp[b5],?_⟩⟩;simp[Builtin.firstCells]
 .simp at a;obtain⟨rfl,rfl⟩:=a;simp only[aT,iW]at d;obtain⟨p,ag,rfl⟩:=d;refine⟨by simp[Builtin.lenOf],aq,λk f=>⟨[],by simp[b5],?_⟩⟩;have:k=0:=z;subst this;simp[Builtin.firstCells,loadCells,loadCellsFrom]
 .rename_i s;cases H:Nat.beq esz 1 with
  |false=>rw[H]at a;simp at a
  |true=>
  obtain rfl:=gK H;simp at a;obtain⟨rfl,rfl⟩:=a;obtain⟨ok,rfl⟩:=us d;refine⟨by simp[Builtin.lenOf,MR],aq,λk f=>⟨_,ur _ (aiZ ok),?_⟩⟩;simp only[Builtin.firstCells,aiy,tX,fI];congr 1;apply xG;simp[e2,Wi]
 .cases a
def akq(n:Nat):∀(r c:Nat),Builtin.growBy n r c<=max c (2*n+192)
 |0,c=>by simp[Builtin.growBy];omega
 |r+1,c=>by rw[Builtin.growBy];split;{omega};{rename_i h;have:=akq n r (c+(c+768)/4);omega}
variable{n:Nat}
def aFC{c:Nat}(h:c<n):Builtin.nextslicecap n c<=2*n+192:=by unfold Builtin.nextslicecap;split;omega;split;omega;have:=akq n 4 c;omega
def aMr(ai:Ω)(n:Nat)(a:ai.size≠0):Builtin.zeroCells ai n=(wl n ai.toList).toArray:=by unfold Builtin.zeroCells;exact aq0 ai n a
end
section
variable {P:Program} {ρ:cj}
def Jo(e:TypeId)(esz bytes:Nat)(h:ay)(old:List U)(need:Nat)(l:List U):Option (U×ay):=
 bif Nat.ble ((2*need+192)*bytes) 281474976710656&&Nat.ble need 4611686018427387904&&Nat.blt h.nx eG then some (.slice h.nx 0 need esz none,h.add (.cells e (old++l) false true))else none
def XT(e:TypeId)(esz bytes:Nat):List U->ay->Option (U×ay)
 |[d,x],h=>match Vr esz h x with
  |none=>none
  |some (n,l)=>match d with
   |.dM=>bif Nat.beq n 0 then some (.dM,h)else Jo e esz bytes h [] n l
   |.slice b off len g cap=>bif Nat.beq g esz then match IY h b off esz cap with
    |none=>none
    |some (c,s_)=>
     bif Nat.ble (len+n) c then
      (bif Nat.beq n 0 then some (.slice b off len esz cap,h)else match h.cW b with
       |some (.cells a vs f true)=>bif Nat.ble (off+(len+n)*esz) vs.length&&l.all qk&&Nat.blt b eG then
         some (.slice b off (len+n) esz cap,h.db b (some (.cells a (An vs (off+len*esz) l) f true)))else none
       |_=>none)
     else(bif s_&&Nat.beq len 0 then Jo e esz bytes h [] n l else match h.cW b with
      |some (.cells a vs f wr)=>bif Nat.ble (off+len*esz) vs.length then
        (bif s_ then Jo e esz bytes h ((vs.drop off).take (len*esz)) (len+n) l
        else bif wr&&Nat.beq a e&&Nat.blt b eG&&l.all qk&&cap.isNone&&Nat.ble ((2*(len+n)+192)*bytes) 281474976710656&&Nat.ble (len+n) 4611686018427387904&&Nat.blt h.nx eG then
         some (.slice h.nx 0 (len+n) esz none,(h.db b none).add (.cells e ((vs.drop off).take (len*esz)++l) false true))
        else none)
       else none
      |_=>none)
    else none
   |_=>none
 |_,_=>none
def act{a:TypeDesc}(h:∀k,a≠ .int k):(match a with|TypeDesc.int _=>true|_=>false)=false:=by cases a<;>first|rfl|exact(h _ rfl).elim
def az4{w:Γ}{c:Array TypeId}{ty s e f:TypeId}{d:TypeDesc}{base:Θ}{sLen sCap n:Nat}{x:Φ}{a:TypeInfo}{ai:Φ}{old d_:List Φ}(r:c[0]? =some s)(C:c[1]? =some f)(hu:P.underlying s=some (.slice e))(aP:P.info? e=some a)(m:a.zero=some ai)(t:ai.cells.size=a.size)(o:a.size≠0) (B:P.underlying f=some d)(j:∀k,d≠ .int k)(q:(Builtin.lenOf x).run P w=.ok n w)(i:∀w',w'.heap=w.heap->(Builtin.firstCells a.size sLen (.slice base sLen sCap)).run P w'=.ok old.toArray w') (y:∀w',w'.heap=w.heap->(Builtin.firstCells a.size n x).run P w'=.ok d_.toArray w')(A:sCap<sLen+n)(G:(2*(sLen+n)+192)*a.bytes<=281474976710656)(E:sLen+n<=4611686018427387904):∃cap,sLen+n<=cap/\(Builtin.append_ c ty #[.slice base sLen sCap,x]).run P w=.ok (.slice (some ⟨w,0,none⟩) (sLen+n) cap) {w with heap:=w.heap.push (.cells (old++(d_++wl (cap-(sLen+n)) ai.cells.toList)).toArray e),drawn:=w.drawn+1}:=by
 refine⟨(Question.appendCap (sLen+n) sCap e).cut (w.tape w.drawn (.appendCap (sLen+n) sCap e)),by simp[Question.cut],?_⟩;have u:=aFC A;have F:Builtin.nextslicecap (sLen+n) sCap*a.bytes<=281474976710656:=c6 (rm _ u) G;have D:¬(((sLen+n:Nat):Int)>IntKind.i64.max/\(false=true∨a.bytes=0)):=by have:IntKind.i64.max=9223372036854775807:=rfl;rw[this];omega
 have l:¬Builtin.nextslicecap (sLen+n) sCap*a.bytes>2^48:=by have:(2:Nat)^48=281474976710656:=rfl;rw[this];omega
 have a0:(#[Value.slice base sLen sCap,x]:Ω)[0]? =some (.slice base sLen sCap):=rfl;have bZ:(#[Value.slice base sLen sCap,x]:Ω)[1]? =some x:=rfl;have hcut:∀w':Γ,(choose (.appendCap (sLen+n) sCap e)).run P w'=.ok ((Question.appendCap (sLen+n) sCap e).cut (w'.tape w'.drawn (.appendCap (sLen+n) sCap e))) {w' with drawn:=w'.drawn+1}:=λw'=>by simp[run_choose,Question.forced]
 have b:∀w',(typeInfo e).run P w'=.ok a w':=λw'=>by simp[typeInfo,aP]
 have g:∀w',(zeroValue e).run P w'=.ok ai w':=λw'=>by simp[zeroValue,b,m]
 simp only[Builtin.append_,r,a0,bZ,C];simp only[e7,h_ hu,eY,qo aP,h_ B,fI,act j,re,pZ,q,Q0,oR];rw[bo z];simp only[e7,b,eY];rw[bo (by simpa using D)];simp only[e7,b,eY];rw[bo l];simp only[e7,hcut,eY,b,run_askRoom];rw[i {w with drawn:=w.drawn+1} rfl];simp only[eY];rw[y {w with drawn:=w.drawn+1} rfl];simp only[eY,g,newRow,e7,run_newObj,fI];rw[aMr ai.cells _ (by rw[t];exact o)];simp[HZ]
def Yv{σ:b9}{vs:List U}{a b:List Φ}(H:b5 ρ σ vs=some a)(I:b5 ρ σ vs=some b):a=b:=gm (H.symm.trans I)
def grown{σ:b9}{w:Γ}{b:Nat}(G:σ b=none){e:TypeId}{esz need cap:Nat}{vs:List U}{cs zs:List Φ}(a:b5 ρ σ vs=some cs)(c:vs.length=need*esz)(d:zs.length=esz)(g:need<=cap): kA ρ (ea σ b ⟨w.heap.size,0,cap*esz⟩) ⟨w.heap.size,0,cap*esz⟩ (some (.cells (cs++wl (cap-need) zs).toArray e)) (.cells e vs false true):=by
 have f:=nu a;have j:need*esz<=cap*esz:=rm _ g;refine⟨_,(0,0),rfl,?_,(show vs.length<=cap*esz by omega),(λh=>by cases h),⟨cs,wO (.db G) a,λi hi=>?_⟩,λ_ i _ _=>aq⟩
 .simp only[afG,ir,acZ,d,gy];rw[f,c,<-xM];congr 1;omega
 .simp only[gy,Wf];rw[CM z]
def akr{σ:b9}{h:ay}{w:Γ}(l:c_ ρ σ h w){g:Array TypeId}{ty s e q:TypeId}{p:TypeDesc}{base:Θ}{sLen sCap n:Nat}{x:Φ}{a:TypeInfo}{ai:Φ}{oldV b:List U}{old d_:List Φ}(F:g[0]? =some s)(L:g[1]? =some q)(hu:P.underlying s=some (.slice e))(aP:P.info? e=some a)(B:a.zero=some ai)(o:ai.cells.size=a.size)(j:a.size≠0) (K:P.underlying q=some p)(u:∀k,p≠ .int k)(E:(Builtin.lenOf x).run P w=.ok n w)(t:∀w',w'.heap=w.heap->(Builtin.firstCells a.size sLen (.slice base sLen sCap)).run P w'=.ok old.toArray w') (I:∀w',w'.heap=w.heap->(Builtin.firstCells a.size n x).run P w'=.ok d_.toArray w')(J:sCap<sLen+n)(C:b5 ρ σ oldV=some old)(A:b5 ρ σ b=some d_)(y:oldV.length=sLen*a.size)(r:b.length=n*a.size) (G:(2*(sLen+n)+192)*a.bytes<=281474976710656)(z:sLen+n<=4611686018427387904)(i:h.nx<eG):∃c w',(Builtin.append_ g ty #[.slice base sLen sCap,x]).run P w=.ok c w'/\∃d,aT ρ d (.slice h.nx 0 (sLen+n) a.size none)=some c/\c_ ρ d (h.add (.cells e (oldV++b) false true)) w'/\jY σ h w d (h.add (.cells e (oldV++b) false true)) w':=by obtain⟨cap,H,D⟩:=az4 (ty:=ty) F L hu aP B o j K u E t I J G z;have f:=l.kn h.nx (aY _);have m:=grown (w:=w) (e:=e) (esz:=a.size) (need:=sLen+n) (cap:=cap) (zs:=ai.cells.toList) f (zp C A) (by simp[y,r,xM]) (by simpa using o) H;rw[HZ]at m;refine⟨_,_,D,ea σ h.nx ⟨w.heap.size,0,cap*a.size⟩,?_,l.add f i (rj _) (EU _) m,.add f i (aY _) (rj _)⟩;have:cap*a.size/a.size=cap:=afI _ (Wm j);simp[aT,ea,jP,this]
end
section
variable {P:Program} {ρ:cj}
def abx{w w':Γ}{b:Array TypeId}{ty s e d:TypeId}{c:TypeDesc}{base:Addr}{sLen sCap n:Nat}{x:Φ}{a:TypeInfo}{d_:List Φ}(i:b[0]? =some s)(o:b[1]? =some d)(hu:P.underlying s=some (.slice e))(aP:P.info? e=some a) (m:P.underlying d=some c)(f:∀k,c≠ .int k)(h:(Builtin.lenOf x).run P w=.ok n w)(l:(Builtin.firstCells a.size n x).run P w=.ok d_.toArray w)(g:sLen+n<=sCap) (j:(storeCells (base.add (sLen*a.size)) d_).run P w=.ok () w'): (Builtin.append_ b ty #[.slice (some base) sLen sCap,x]).run P w=.ok (.slice (some base) (sLen+n) sCap) w':=by have a0:(#[Value.slice (some base) sLen sCap,x]:Ω)[0]? =some (.slice (some base) sLen sCap):=rfl;have bZ:(#[Value.slice (some base) sLen sCap,x]:Ω)[1]? =some x:=rfl;simp only[Builtin.append_,i,a0,bZ,o];simp only[e7,h_ hu,eY,qo aP,h_ m,fI,act f,re,pZ,h,Q0,oR];rw[ci g];simp only[e7,l,eY,j,fI]
def awO{w:Γ}{a:Array TypeId}{ty s e d:TypeId}{c:TypeDesc}{x:Φ}{b:TypeInfo}{d_:Ω}(i:a[0]? =some s)(m:a[1]? =some d)(hu:P.underlying s=some (.slice e))(aP:P.info? e=some b) (l:P.underlying d=some c)(f:∀k,c≠ .int k)(g:(Builtin.lenOf x).run P w=.ok 0 w)(j:(Builtin.firstCells b.size 0 x).run P w=.ok d_ w): (Builtin.append_ a ty #[.slice none 0 0,x]).run P w=.ok (.slice none 0 0) w:=by have a0:(#[Value.slice none 0 0,x]:Ω)[0]? =some (.slice none 0 0):=rfl;have bZ:(#[Value.slice none 0 0,x]:Ω)[1]? =some x:=rfl;simp only[Builtin.append_,i,a0,bZ,m];simp only[e7,h_ hu,eY,qo aP,h_ l,fI,act f,re,pZ,g,Q0,oR];rw[ci aq];simp only[e7,j,eY,fI]
def awP{o:Oper}{c:Call}{s e qq:TypeId}{qa:TypeDesc}{f:TypeInfo}{ai:Φ}(h:o.op=.call c)(O:c.callee=.builtin .append)(S:c.argTypes[0]? =some s)(X:c.argTypes[1]? =some qq)(hu:P.underlying s=some (.slice e))(aP:P.info? e=some f) (az:f.zero=some ai)(hr:ai.cells.size=f.size)(bO:f.size≠0)(V:P.underlying qq=some qa)(K:∀k,qa≠ .int k):Da P ρ o (XT e f.size f.bytes):=by
 intro σ vs m a w v aX ar ad r J;rw[Ep h O]at ad;have done:∀(u x E:Φ) (w':Γ) (R:Prop),(c.args.map (eC a)).toList=[u,x]->(Builtin.append_ c.argTypes o.type #[u,x]).run P w=.ok E w'->(execOp (eC a) o).run P w=.ok (.value E) w':=λu x E w' _ L ae=>by exact acj
 unfold XT at J;split at J
 .rename_i d x;split at J
  .cases J
  .rename_i n l T_;obtain⟨s7,ja,DQ,lC,L⟩:=lY ad;obtain⟨Q,W,TF⟩:=adx (P:=P) r T_ lC;obtain⟨d_,t,pI⟩:=TF n (aY _);have pK:l.take (n*f.size)=l:=vg z;rw[pK]at t;have aj:∀w',w'.heap=w.heap->(Builtin.firstCells f.size n ja).run P w'=.ok d_.toArray w':=λw' Z=>by obtain⟨_,_,ch⟩:=adx (P:=P) (r.apT Z) T_ lC;obtain⟨av,H,I⟩:=ch n (aY _);rw[pK]at H;rw[Yv t H];exact I
   split at J
   .
    simp only[aT,cx]at DQ;subst DQ;cases af:Nat.beq n 0 with
    |true=>rw[af]at J;simp at J;obtain⟨rfl,rfl⟩:=J;obtain rfl:=gK af;exact .inl ⟨_,w,done _ _ _ _ True L (awO S X hu aP V K Q pI),σ,rfl,r,.refl _ _ _⟩
    |false=>
     rw[af]at J;simp only[jL]at J;have pG:n≠0:=λe=>by subst e;simp at af
     unfold Jo at J;cases g:(Nat.ble ((2*n+192)*f.bytes) 281474976710656&&Nat.ble n 4611686018427387904&&Nat.blt m.nx eG)with
     |false=>rw[g]at J;simp at J
     |true=>
      rw[g]at J;simp only[eZ,cx,iX]at J;obtain⟨rfl,rfl⟩:=J;simp only[dW]at g;obtain⟨⟨c1,c2⟩,c3⟩:=g;have c1:=hZ c1;have c2:=hZ c2;have c3:m.nx<eG:=by simpa using c3
      obtain⟨E,w',ae,B,M,bb,bI⟩:=akr (P:=P) r (ty:=o.type) (base:=none) (sLen:=0) (sCap:=0) (oldV:=[]) (old:=[]) S X hu aP az hr bO V K Q (λw' _=>by simp[Builtin.firstCells]) aj z rfl t aq W (by simpa using c1) z c3;simp only[gy]at M;exact .inl ⟨E,w',done _ _ _ _ True L ae,B,M,bb,bI⟩
   .rename_i b off len cg cap;cases yn:Nat.beq cg f.size with
    |false=>rw[yn]at J;simp at J
    |true=>
     rw[yn]at J;obtain rfl:=gK yn;simp only[eZ]at J;obtain⟨p,ag,rfl⟩:=zr DQ;split at J
     .cases J
     .rename_i up s_ JE;obtain⟨bN,dx⟩:=Yi r ag JE;cases Gj:Nat.ble (len+n) up with
      |true=>
       have aa:=hZ Gj;rw[Gj]at J;simp only[eZ]at J;cases af:Nat.beq n 0 with
       |true=>rw[af]at J;simp at J;obtain⟨rfl,rfl⟩:=J;obtain rfl:=gK af;have am:l=[]:=CN.1 (by simpa using W);subst am;simp[b5]at t;subst t;have ae:=abx (P:=P) (ty:=o.type) (w':=w) (base:=⟨p.ba,p.del+off,none⟩) S X hu aP V K Q pI (c6 aa bN) (by simp[storeCells]);exact .inl ⟨_,w,done _ _ _ _ True L ae,σ,DQ,r,.refl _ _ _⟩
       |false=>
        rw[af]at J;simp only[jL]at J;split at J
        .rename_i F D ku G;cases g:(Nat.ble (off+(len+n)*f.size) D&&l.all qk&&Nat.blt b eG)with
         |false=>rw[g]at J;simp at J
         |true=>
          rw[g]at J;simp only[eZ,cx,iX]at J;obtain⟨rfl,rfl⟩:=J;simp only[dW]at g;obtain⟨⟨c1,c2⟩,c3⟩:=g;have c1:=hZ c1;have c3:b<eG:=by simpa using c3
          obtain⟨b1,w',ez,fb,m4,b'⟩:=r.aew (off:=off+len*f.size) G c3 t (by rw[W];rw[xM]at c1;omega) (FC c2 t);obtain rfl:p=b1:=gm (ag.symm.trans ez);have ae:=abx (P:=P) (ty:=o.type) (w':=w') (base:=⟨p.ba,p.del+off,none⟩) S X hu aP V K Q pI (c6 aa bN) (by rw[zg,k4];exact fb P);exact .inl ⟨_,w',done _ _ _ _ True L ae,σ,by simp[aT,ag],m4,b'⟩
        .cases J
      |false=>
       have aa:up<len+n:=by apply afH;intro dQ;rw[Wk dQ]at Gj;cases Gj
       rw[Gj]at J;simp only[jL]at J;have ZI:∀(oldV:List U) (old:List Φ),(∀w',w'.heap=w.heap->(Builtin.firstCells f.size len (.slice (some ⟨p.ba,p.del+off,none⟩) len (jP p off f.size cap))).run P w'=.ok old.toArray w')->b5 ρ σ oldV=some old->oldV.length=len*f.size->
         jP p off f.size cap<len+n->(2*(len+n)+192)*f.bytes<=281474976710656->len+n<=4611686018427387904->m.nx<eG->
         EY P o a w λc w'=>∃B,aT ρ B (.slice m.nx 0 (len+n) f.size none)=some c/\c_ ρ B (m.add (.cells e (oldV++l) false true)) w'/\jY σ m w B (m.add (.cells e (oldV++l) false true)) w':=λoldV old b_ cv ek il lm kJ yG=>by
        obtain⟨E,w',ae,B,M,bb,bI⟩:=akr (P:=P) r (ty:=o.type) (base:=some ⟨p.ba,p.del+off,none⟩) S X hu aP az hr bO V K Q b_ aj il cv t ek W lm kJ yG;exact .inl ⟨E,w',done _ _ _ _ True L ae,B,M,bb,bI⟩
       cases N:(s_&&Nat.beq len 0)with
       |true=>
        rw[N]at J;simp only[eZ]at J;simp only[dW]at N;obtain⟨rfl,yo⟩:=N;obtain rfl:=gK yo;have:=dx rfl;unfold Jo at J;cases g:(Nat.ble ((2*n+192)*f.bytes) 281474976710656&&Nat.ble n 4611686018427387904&&Nat.blt m.nx eG)with
        |false=>rw[g]at J;simp at J
        |true=>
         rw[g]at J;simp only[eZ,cx,iX]at J;obtain⟨rfl,rfl⟩:=J;simp only[dW]at g;obtain⟨⟨c1,c2⟩,c3⟩:=g;have c1:=hZ c1;have c2:=hZ c2;have c3:m.nx<eG:=by simpa using c3
         have:=ZI [] [] (λw' _=>by simp[Builtin.firstCells,loadCells,loadCellsFrom]) rfl aq z (by simpa using c1) z c3;simpa using this
       |false=>
        rw[N]at J;simp only[jL]at J;split at J
        .rename_i F D ku wr G;cases hx:Nat.ble (off+len*f.size) D with
         |false=>rw[hx]at J;simp at J
         |true=>
          have TO:=hZ hx;rw[hx]at J;simp only[eZ]at J;have JP:∀w',w'.heap=w.heap->∃cs,b5 ρ σ ((D.drop off).take (len*f.size))=some cs/\(Builtin.firstCells f.size len (.slice (some ⟨p.ba,p.del+off,none⟩) len (jP p off f.size cap))).run P w'=.ok cs.toArray w':=λw' Z=>by obtain⟨b1,arr,bd,cs,ez,H,I,ah,aS,b4,fY,_⟩:=(r.apT Z).cells G;obtain rfl:p=b1:=gm (ag.symm.trans ez);have gs:=nu b4;refine⟨_,ur _ (vF _ b4),?_⟩;simp only[Builtin.firstCells];refine P3 p.ba (p.del+off) (len*f.size) _ bw λj A=>?_;rw[k4,fY (off+j) z];simp[pk,A]
          obtain⟨old,Y,_⟩:=JP w rfl;have al:∀w',w'.heap=w.heap->(Builtin.firstCells f.size len (.slice (some ⟨p.ba,p.del+off,none⟩) len (jP p off f.size cap))).run P w'=.ok old.toArray w':=λw' Z=>by obtain⟨cs,b_,cv⟩:=JP w' Z;rw[Yv Y b_];exact cv
          have OL:((D.drop off).take (len*f.size)).length=len*f.size:=bw;cases s_ with
          |true=>
           simp only[eZ]at J;have:=dx rfl;unfold Jo at J;cases g:(Nat.ble ((2*(len+n)+192)*f.bytes) 281474976710656&&Nat.ble (len+n) 4611686018427387904&&Nat.blt m.nx eG)with
           |false=>rw[g]at J;simp at J
           |true=>rw[g]at J;simp only[eZ,cx,iX]at J;obtain⟨rfl,rfl⟩:=J;simp only[dW]at g;obtain⟨⟨c1,c2⟩,c3⟩:=g;exact ZI _ old al Y OL z (hZ c1) (hZ c2) (by simpa using c3)
          |false=>
           simp only[jL]at J;cases g:(wr&&Nat.beq F e&&Nat.blt b eG&&l.all qk&&cap.isNone&&Nat.ble ((2*(len+n)+192)*f.bytes) 281474976710656&&Nat.ble (len+n) 4611686018427387904&&Nat.blt m.nx eG)with
           |false=>rw[g]at J;simp at J
           |true=>
            rw[g]at J;simp only[eZ,cx,iX]at J;obtain⟨rfl,rfl⟩:=J;simp only[dW]at g;obtain⟨⟨⟨⟨⟨⟨⟨rfl,c2⟩,c3⟩,c4⟩,c5⟩,fe⟩,nZ⟩,T⟩:=g;obtain rfl:=gK c2;have c3:b<eG:=by simpa using c3
            have fe:=hZ fe;have nZ:=hZ nZ;have T:m.nx<eG:=by simpa using T
            cases cap with
            |some q=>simp at c5
            |none=>
             by_cases OS:len+n<=jP p off f.size none
             .
              obtain⟨b1,arr,bd,cs,ez,H,I,ah,aS,b4,fY,fh,e8⟩:=r.cells G;obtain rfl:p=b1:=gm (ag.symm.trans ez);have au:p.ba<w.heap.size:=(hl.1 H).1;have gs:=nu b4;have BC:=nu t;have an:(len+n)*f.size<=p.tot-off:=by have:(len+n)*f.size<=((p.tot-off)/f.size)*f.size:=rm _ OS;exact c6 this (Nat.div_mul_le_self _ _)
              rw[xM]at an;have ap:off<=p.tot:=z;have vO:∀i,p.del<=i->i<arr.size->¬(bd.1<=i/\i<bd.2):=λi hi au=>by have:=e8 rfl i hi au;simp only[World.frozen?,H]at this;obtain⟨eo,rH⟩:=bd;simp at this|-;exact this
              have fb:=ac_ (P:=P) p.ba (p.del+off+len*f.size) F bd d_ 0 w arr H (FC c4 t) λj A=>⟨z,vO _ z z⟩;simp only[hY]at fb;have ae:=abx (P:=P) (ty:=o.type) (base:=⟨p.ba,p.del+off,none⟩) S X hu aP V K Q pI OS (by rw[zg];exact fb);have mp:=r.kn m.nx (aY _);have dD:kA ρ (ea σ m.nx ⟨p.ba,p.del+off,p.tot-off⟩) ⟨p.ba,p.del+off,p.tot-off⟩ (some (.cells (tL arr (p.del+off+len*f.size) d_) F bd)) (.cells F ((D.drop off).take (len*f.size)++l) false true):=by
               refine⟨_,bd,rfl,by rw[Qc];simp only;omega,?_,(λh=>by cases h),⟨_,wO (.db mp) (zp Y t),λi hi=>?_⟩,λ_ i hi au=>?_⟩
               .simp only[ir,OL,W];omega
               .simp only[ir,OL,W]at hi;have ao:=nu Y;rw[OL]at ao;simp only;rw[Vp _ _ _ _ z];by_cases ak:i<len*f.size
                .rw[bo z,CM z,k4,fh (off+i) z];have:=Yv Y (ur (len*f.size) (vF off b4));rw[this];simp[pk,ak]
                .rw[ci z,EP z];congr 1;omega
               .rw[Qc]at au;simp only at hi;exact vO i z au
              obtain⟨M,bb⟩:=r.rename (q:=⟨p.ba,p.del+off,p.tot-off⟩) G ag c3 T au rfl dD;refine .inl ⟨_,_,done _ _ _ _ True L ae,_,?_,M,bb⟩;simp[aT,ea,jP]
             .
              have N:=ZI _ old al Y OL z fe nZ T;refine N.mono λE w' ⟨B,b_,cv,ek⟩=>⟨B,b_,?_⟩;have Bu:b≠m.nx:=λe=>by have:=r.kn m.nx (aY _);rw[<-e,ag]at this;cases this
              have Tw:∀j,((m.db b none).add (.cells F ((D.drop off).take (len*f.size)++l) false true)).cW j=((m.add (.cells F ((D.drop off).take (len*f.size)++l) false true)).db b none).cW j:=λj=>by
               rw[ay.S' _ _ _ (show(m.db b none).nx<eG from T),ay.vJ m b j none c3,ay.vJ _ b j none c3,ay.S' _ _ _ T];by_cases ak:j=m.nx
               .subst ak;simp[ay.db,it Bu]
               .by_cases aI:j=b
                .subst aI;simp[ay.db,Bu]
                .simp[ay.db,ak,aI]
              obtain⟨eM,ft⟩:=cv.drop c3;have C:=ek.trans ft;exact⟨⟨λj y A=>eM.ba j y (by rw[<-Tw];exact A),λj gl y mT q gx A gu=>eM.inj j gl y mT q gx (by rw[<-Tw];exact A) (by rw[<-Tw];exact gu),λj A=>eM.kn j A⟩,
               ⟨C.ext,C.d_,C.nx,C.size,C.kept,λk ⟨j,y,q,A,aE,e⟩=>C.oe k ⟨j,y,q,by rw[<-Tw];exact A,aE,e⟩,C.os,C.output,C.tape⟩⟩
        .cases J
   .cases J
 .cases J
end
end Go.cE
namespace Go.cE
open Go.Proofs.Tryz
section
variable {P:Program} {ρ:cj}
def wV(op:BinOp)(b:Bool):Option U:=match op with
 |.eql=>some (.bool b)
 |.neq=>some (.bool (!b))
 |_=>none
variable{o:Oper}{t:TypeId}{x y:Operand}{w:Γ}{b:Bool}
def Jh{op:BinOp}{f:TypeId}(h:o.op=.binOp op t x y f){a:Ω}{u v:Φ}{r:U}{σ:b9}(hu:eC a x=u)(J:eC a y=v)(ar:∀op,(eqGuard op t x y u v).run P w=.ok () w) (aP:∀n,(Op.equalIn (n+2) t u v).run P w=.ok b w)(H:binOp .eql t u v=(do pure (.bool (<-Op.equal t u v))))(I:binOp .neq t u v=(do pure (.bool (!(<-Op.equal t u v)))))(d:wV op b=some r):∃c,aT ρ σ r=some c/\(execOp (eC a) o).run P w=.ok (.value c) w:=by have e:(Op.equal t u v).run P w=.ok b w:=aP 9998;cases op<;>simp[wV]at d;subst d;exact⟨_,rfl,by simp[execOp,h,hu,J,ar,H,e]⟩;subst d;exact⟨_,rfl,by simp[execOp,h,hu,J,ar,I,e]⟩
def Y8(op:BinOp):List U->Option U
 |[.rU,.rU]=>wV op true
 |[.ji _ _,.rU]=>wV op false
 |[.rU,.ji _ _]=>wV op false
 |[.ji b o,.ji a c]=>bif Nat.beq b a then wV op (Nat.beq o c)else none
 |_=>none
variable{k e:TypeId}
def ay7{op:BinOp}{f:TypeInfo}(h:o.op=.binOp op t x y k)(hd:P.underlying t=some (.pointer e))(aP:P.info? e=some f)(i:f.size≠0):m1 P ρ o (Y8 op):=by
 intro σ s a w r ar V J;have lc:∀p q op,(eqGuard op t x y (.pointer p) (.pointer q)).run P w=.ok () w:=λp q op=>Jg (.inl aq) aq;unfold Y8 at J;split at J;exact aEP;let⟨wQ,gN,lB,gE,L⟩:=lY V;simp[gf,h,Op.operands]at L;obtain⟨p,ag,rfl⟩:=wP lB;simp only[aT,cx]at gE;subst gE;exact ab6;let⟨wQ,gN,lB,gE,L⟩:=lY V;simp[gf,h,Op.operands]at L;obtain⟨p,ag,rfl⟩:=wP gE;simp only[aT,cx]at lB;subst lB;exact ab6
 .rename_i b d j c;cases G:Nat.beq b j with
  |false=>rw[G]at J;simp at J
  |true=>
   rw[G]at J;simp only[eZ]at J;obtain rfl:=gK G;let⟨wQ,gN,lB,gE,L⟩:=lY V;simp[gf,h,Op.operands]at L;obtain⟨p,ag,rfl⟩:=wP lB;obtain⟨q,g,rfl⟩:=wP gE;obtain rfl:p=q:=gm (ag.symm.trans g);have l:((⟨p.ba,p.del+d,none⟩:Addr)==⟨p.ba,p.del+c,none⟩)=Nat.beq d c:=by
    by_cases ak:d=c;subst ak;simp;rw[ML ak];simp<;>omega
   exact Jh h L.1 L.2 (lc _ _) (λn=>by simp[Op.equalIn,h_ hd,qo aP,i,sameAddr,l]) rfl rfl J
 cases J
def Y9(op:BinOp):List U->Option U
 |[.dM,.dM]=>wV op true
 |[.slice _ _ _ _ _,.dM]=>wV op false
 |[.lZ _ _ _ _,.dM]=>wV op false
 |_=>none
def ay8{op:BinOp}(h:o.op=.binOp op t x y k)(hd:P.underlying t=some (.slice e)):m1 P ρ o (Y9 op):=by intro σ s a w r ar d J;have lc:∀bZ cz a3 j i cF op,(eqGuard op t x y (.slice bZ cz a3) (.slice j i cF)).run P w=.ok () w:=λ_ _ _ _ _ _ op=>Jg (.inl aq) aq;unfold Y9 at J;split at J;let⟨g,f,c,b,L⟩:=lY d;simp[gf,h,Op.operands]at L;simp only[aT,cx]at c b;subst c;subst b;exact acg;let⟨g,f,c,b,L⟩:=lY d;simp[gf,h,Op.operands]at L;obtain⟨p,ag,rfl⟩:=zr c;simp only[aT,cx]at b;subst b;exact acg;let⟨g,f,c,b,L⟩:=lY d;simp[gf,h,Op.operands]at L;simp only[aT,iW]at c;obtain⟨p,ag,rfl⟩:=c;simp only[aT,cx]at b;subst b;exact acg;cases J
def Y5(op:BinOp):List U->Option U
 |[.z',.z']=>wV op true
 |[.fn _ _ _,.z']=>wV op false
 |_=>none
def ay5{op:BinOp}{b c:Array TypeId}{d:Bool}(h:o.op=.binOp op t x y e)(hd:P.underlying t=some (.func b c d)):m1 P ρ o (Y5 op):=by intro σ s a w r ar V J;unfold Y5 at J;split at J;exact aEQ;let⟨wQ,gN,lB,gE,L⟩:=lY V;simp[gf,h,Op.operands]at L;simp only[aT]at lB gE;split at lB<;>cases lB;cases gE;exact Jh h L.1 L.2 (λop=>Jg (.inl aq) aq) (λn=>by simp[Op.equalIn,h_ hd]) rfl rfl J;cases J
def Bk:U->U->Option Bool
 |.int k a,.int j b=>bif decide (k=j)then some (wU a b)else none
 |.str a,.str b=>some (xv a b)
 |.bool a,.bool b=>some (a==b)
 |_,_=>none
def rQ:Nat->U->Bool
 |0,.int _ _=>true
 |1,.str _=>true
 |2,.bool _=>true
 |_,_=>false
def NB(aH a:List U):List (Nat×Nat)->Option Bool
 |[]=>some true
 |(o,b)::l=>match aH[o]?,a[o]? with
  |some x,some y=>bif rQ b x then match Bk x y with
   |some true=>NB aH a l
   |some false=>some false
   |none=>none
   else none
  |_,_=>none
def Y_(op:BinOp)(c:List (Nat×Nat)):List U->Option U
 |[.agg aH,.agg a]=>match NB aH a c with
  |some b=>wV op b
  |none=>none
 |_=>none
def q9:TypeDesc->Option Nat
 |.int _=>some 0
 |.string=>some 1
 |.bool=>some 2
 |_=>none
def Jl(P:Program):List Field->Option (List (Nat×Nat))
 |[]=>some []
 |f::a=>match P.underlying f.type with
  |some d=>match q9 d,Jl P a with
   |some t,some r=>if f.name= "_" then none else some ((f.offset,t)::r)
   |_,_=>none
  |none=>none
def ajQ{σ:b9}{d:TypeDesc}{i:Nat}{x y:U}{g l:Φ}{n:Nat}(hd:P.underlying t=some d)(aj:q9 d=some i)(c:aT ρ σ x=some g)(a:aT ρ σ y=some l)(e:rQ i x=true)(h:Bk x y=some b): (Op.equalIn (n+1) t g l).run P w=.ok b w:=by unfold Bk at h;split at h;rename_i k p j q;by_cases f:k=j;subst f;simp at h;subst h;obtain rfl:=o0 c;obtain rfl:=o0 a;cases d<;>simp[q9]at aj<;>subst aj<;>simp[rQ]at e;rename_i r;rw[run_equalIn_int w n t k r p q hd,Dy];rfl;simp[f]at h;cases h;obtain⟨m,rfl⟩:=us c;obtain⟨o,rfl⟩:=us a;cases d<;>simp[q9]at aj<;>subst aj<;>simp[rQ]at e;rw[run_equalIn_string w n t _ _ hd,S2 m o];cases h;simp only[aT,cx]at c a;subst c;subst a;cases d<;>simp[q9]at aj<;>subst aj<;>simp[rQ]at e;exact run_equalIn_bool' w n t _ _ hd;cases h
def arE{d:TypeDesc}{b:Nat}(hd:P.underlying t=some d)(aj:q9 d=some b){cs:Ω}{o:Nat}{c:Φ}(a:cs[o]? =some c):(part t cs o).run P w=.ok c w:=by
 have:vz d=false:=by cases d<;>simp[q9]at aj<;>rfl
 simp[part,Vk hd,this,a]
def ajR{σ:b9}{aH s:List U}{k l:List Φ}(q:b5 ρ σ aH=some k)(p:b5 ρ σ s=some l)(n:Nat)(w:Γ):∀{j:List Field} {g:List (Nat×Nat)} {b:Bool},Jl P j=some g->NB aH s g=some b->
  (Op.eqFields (n+1) k.toArray l.toArray j).run P w=.ok b w
 |[],g,b,a,h=>by simp[Jl]at a;subst a;simp[NB]at h;subst h;simp[Op.eqFields]
 |f::j,g,b,a,h=>by
  simp only[Jl]at a;split at a
  .rename_i d hd;split at a
   .rename_i E r c B;split at a
    .cases a
    .rename_i m;cases a;simp only[NB]at h;split at h
     .rename_i x y F G;let⟨c1,C,t⟩:=zq q F;let⟨c2,D,A⟩:=zq p G;have u:=arE (P:=P) (w:=w) hd c (cs:=k.toArray) (o:=f.offset) (by simpa using C);have z:=arE (P:=P) (w:=w) hd c (cs:=l.toArray) (o:=f.offset) (by simpa using D);cases e:rQ E x with
      |false=>rw[e]at h;simp at h
      |true=>
       rw[e]at h
       simp only[eZ]at h
       split at h
       .rename_i aP
        have i:=ajQ (P:=P) (n:=n) (w:=w) hd c t A e aP
        simp only[Op.eqFields,m,ne_eq,not_false_eq_true,oR,e7,u,z,i,eY,aff,re,pZ]
        exact ajR q p n w B h
       .rename_i aP
        cases h
        have i:=ajQ (P:=P) (n:=n) (w:=w) hd c t A e aP
        simp[Op.eqFields,m,u,z,i]
       .cases h
     .cases h
   .cases a
  .cases a
def ay_{op:BinOp}{m:TypeId}{d:Array Field}{i:List (Nat×Nat)}(h:o.op=.binOp op t x y m)(hd:P.underlying t=some (.struct d))(l:P.stoodInHeld t=false)(q:P.eqGuardType P.depth t=false)(k:Jl P d.toList=some i):m1 P ρ o (Y_ op i):=by
 intro σ s a w r ar j J;unfold Y_ at J;split at J
 .rename_i aH z;split at J
  .rename_i b G;let⟨D,A,g,f,c⟩:=lY j;simp[gf,h,Op.operands]at c;simp only[aT,iW]at g f;obtain⟨B,p,rfl⟩:=g;obtain⟨C,u,rfl⟩:=f;have e:P.fieldsOf t=d:=by simp[Program.fieldsOf,hd]
   refine Jh h c.1 c.2 (λop=>run_eqGuard_agg w op t x y _ _ q) (λn=>?_) rfl rfl J;rw[run_equalIn_struct w (n+1) t _ _ (by rw[e];exact hd) l,e];exact ajR p u n w k G
  cases J
 cases J
end
end Go.cE
namespace Go.cE
def ro(ρ:cj)(σ:b9)(h:ay)(w:Γ)(v:U)(b:ay)(c:Φ)(w':Γ):Prop:=∃a,aT ρ a v=some c/\c_ ρ a b w'/\jY σ h w a b w'
def nO(P:Program)(ρ:cj)(f:FuncId)(F:List U->ay->Option (U×ay)):Prop:=
 ∀σ args h v a cs w,kM P σ->b5 ρ σ args=some cs->c_ ρ σ h w->F args h=some (v,a)->
  (∃c w',(callFunc f cs.toArray).run P w=.ok (.value c) w'/\ro ρ σ h w v a c w')∨
  ((callFunc f cs.toArray).run P w=.ok (.enter f cs.toArray) w/\ui P (Frame.enter P f cs.toArray .normal) w (ro ρ σ h w v a))
structure jX where
 call:FuncId->List U->ay->Option (U×ay)
 yield:Nat->List U->ay->Option (U×ay)
def ahS(P:Program)(ρ:cj)(F:Nat->List U->ay->Option (U×ay)):Prop:=
 ∀σ b args h v a cs w p,kM P σ->b5 ρ σ args=some cs->c_ ρ σ h w->σ b=some p->F b args h=some (v,a)->
  ∃f t x y,(Instr.yield p.ba cs.toArray).run P w=.ok (.round p.ba f t x y) w/\ui P (Frame.round p.ba f t x y .normal) w (ro ρ σ h w v a)
structure vk (P:Program) (ρ:cj) (E:jX):Prop where
 call:∀f,nO P ρ f (E.call f)
 yield:ahS P ρ E.yield
def M2(E:jX):List U->ay->Option (U×ay)
 |.fn f first cap::args,h=>E.call f (first++(args++cap)) h
 |.xF b::args,h=>E.yield b args h
 |_,_=>none
section
variable {P:Program} {ρ:cj}
def axq{E:jX}(q:vk P ρ E){o:Oper}{c:Call}{x:Operand}(h:o.op=.call c)(i:c.callee=.value x):Da P ρ o (M2 E):=by
 intro σ s r a w v m ar j n J;have D:gf o a=eC a x::c.args.toList.map (eC a):=by simp[gf,h,Op.operands,Call.operands,i]
 rw[D]at j;unfold M2 at J;split at J
 .rename_i f first cap args
  let⟨C,g,H,I,e⟩:=qK j;simp only[qs]at e;let⟨ak,k⟩:=e;simp only[aT]at H;split at H
  .rename_i u G y K;cases H;have F:=zp y (zp I K);have l:(execOp (eC a) o).run P w=(callFunc f (u++(g++G)).toArray).run P w:=by simp only[execOp,h,resolve,i,ak,Deferred.ofValue,e7,fI,eY,invoke];congr 2;apply xG;simp[<-k]
   rcases q.call f σ _ r v m _ w ar F n J with⟨B,w',d,aL⟩|⟨d,aL⟩
   exact .inl ⟨B,w',by rw[l];exact d,aL⟩;exact .inr (.inr (.inl ⟨f,_,w,by rw[l];exact d,aL⟩))
  cases H
 .rename_i b args;let⟨C,g,H,I,e⟩:=qK j;simp only[qs]at e;let⟨ak,k⟩:=e;simp only[aT,iW]at H;obtain⟨p,ag,rfl⟩:=H;let⟨f,t,z,A,d,aL⟩:=q.yield σ b _ r v m g w p ar I n ag J;refine .inr (.inr (.inr ⟨p.ba,f,t,z,A,w,?_,aL⟩));simp only[execOp,h,resolve,i,ak,Deferred.ofValue,e7,fI,eY,invoke];have:(#[]++c.args.map (eC a))=g.toArray:=by apply xG;simp[<-k]
  rw[this];exact d
 cases J
def xq:List U->Nat->S->S
 |[],_,s=>s
 |v::l,i,s=>xq l (i+1) (put i v s)
def akh{t:Nat}(aj:t<256):∀{l:List U} {i:Nat} {s:S},i+l.length<=256->g t (xq l i s)=if i<=t/\t<i+l.length then l.getD (t-i) qG else g t s
 |[],i,s,_=>by simp[xq];intro H I;omega
 |v::l,i,s,h=>by simp only[l8]at h;rw[xq,akh aj z];by_cases e:t=i;{subst e;rw[bo z,ci aq];simp only[ZA,afL,List.getD_cons_zero]};{by_cases H:i+1<=t/\t<i+1+l.length;{rw[ci H,ci bw];have:t-i=(t-(i+1))+1:=z;rw[this];simp};{rw[bo H,bo bw];exact Zz t i v s z z e}}
def nW.start{σ:b9}{args:List U}{cs:List Φ}{aB:Nat}(a:b5 ρ σ args=some cs)(d:args.length<=aB)(b:aB<=256):nW ρ σ aB (xq args 0 bY) (cs.toArray++Array.replicate (aB-cs.toArray.size) undef):=by
 have c:=nu a;refine⟨bw,b,λi hi=>?_⟩;rw[akh z z];by_cases h:i<args
 .rw[ci z,afM];have ar:args[i]? =some (args.getD i qG):=by simp[List.getD,h]
  let⟨x,H,I⟩:=zq a ar;rw[I];have:(cs.toArray++Array.replicate (aB-cs.toArray.size) undef)[i]? =some x:=by rw[ata bw];simpa using H
  rw[as',this];rfl
 .rw[bo z];have:g i bY=qG:=azU i;rw[this,Na];have:(cs.toArray++Array.replicate (aB-cs.toArray.size) undef)[i]? =some undef:=by rw[Array.getElem?_append_right bw,Array.getElem?_replicate,ci bw]
  rw[as',this];rfl
def Nq:List Nat->ay->Option ay
 |[],h=>some h
 |b::l,h=>match h.cW b with
  |some .deferred=>bif Nat.blt b eG then Nq l (h.db b none)else none
  |_=>none
inductive s2 where
 |tmp (t:Nat)
 |cell (t:Nat) (agg:Bool) (n:Nat)
def ac0(s:S)(h:ay):s2->Option U
 |.tmp t=>some (g t s)
 |.cell t agg n=>Ei agg n [g t s] h
def PZ(s:S)(h:ay):List s2->Option (List U)
 |[]=>some []
 |r::l=>match ac0 s h r,PZ s h l with
  |some x,some y=>some (x::y)
  |_,_=>none
def G1:List U->U
 |[v]=>v
 |l=>.tup l
def Dz(rs:List s2)(x:gU):Option (U×ay):=match Nq x.kb x.h with
 |some a=>match PZ x.s a rs with
  |some l=>some (G1 l,a)
  |none=>none
 |none=>none
def DB(aB:Nat)(rs:List s2)(F:kB)(args:List U)(h:ay):Option (U×ay):=bif Nat.ble args.length aB then match F ⟨xq args 0 bY,h,[]⟩with
 |some (.iH,x)=>Dz rs x
 |some (.ret,x)=>Dz rs x
 |_=>none
 else none
def Ky(a:Ω):ResultVar->Sem Φ
 |.tmp t=>pure (a.getD t undef)
 |.cell b t=>do loadVar t (<-asAddr (a.getD b undef))
def arb(fn:Func)(a:Ω):results fn a=(do let vs <-fn.results.mapM (Ky a);pure (if h:vs.size=1 then vs[0]else .tuple vs)):=by unfold results;congr 2
def avA(P:Program)(aB:Nat):ResultVar->s2->Prop
 |.tmp t,.tmp b=>t=b/\t<aB
 |.cell a t,.cell a' agg n=>a=a'/\a<aB/\∃d i,P.underlying t=some d/\P.info? t=some i/\agg=vz d/\n=i.size
 |_,_=>False
def Mq(P:Program)(aB:Nat):List ResultVar->List s2->Prop
 |[],[]=>True
 |r::l,x::m=>avA P aB r x/\Mq P aB l m
 |_,_=>False
def ac1{σ:b9}{s:S}{h:ay}{a:Ω}{w:Γ}{aB:Nat}(ar:kM P σ)(j:nW ρ σ aB s a)(A:c_ ρ σ h w):∀{l:List ResultVar} {m:List s2} {vs:List U},Mq P aB l m->PZ s h m=some vs->
  ∃cs,b5 ρ σ vs=some cs/\(l.mapM (Ky a):Sem (List Φ)).run P w=.ok cs w
 |[],[],vs,_,J=>by simp[PZ]at J;subst J;exact⟨[],rfl,aq⟩
 |[],_::_,_,h,_=>h.elim
 |_::_,[],_,h,_=>h.elim
 |r::l,x::m,vs,⟨H,I⟩,J=>by
  simp only[PZ]at J;split at J
  .rename_i y K e F;cases J;let⟨cs,u,z⟩:=ac1 ar j A I F;cases r with
   |tmp t=>
    cases x with
    |tmp O=>
     obtain⟨rfl,au⟩:=H
     simp[ac0]at e
     subst e
     refine⟨a.getD t undef::cs,by simp[b5,j.2.2 t au,u],?_⟩
     simp only[afB,e7,Ky,fI,eY,z]
    |cell _ _ _=>exact H.elim
   |cell b t=>
    cases x with
    |tmp _=>exact H.elim
    |cell L agg n=>
     obtain⟨rfl,au,d,i,hd,hi,rfl,rfl⟩:=H
     simp only[ac0]at e
     have D:=anP (P:=P) (ρ:=ρ) (o:={dst:=none,op:=.load t (.tmp b),type:=0,pos:= "",after:=#[],guard:=none}) rfl hd hi σ [g b s] h a w y ar (by simp[gf,Op.operands,b5,j.2.2 b au,eC]) A e
     let⟨c,G,f⟩:=D
     refine⟨c::cs,by simp[b5,G,u],?_⟩
     have E:(do loadVar t (<-asAddr (a.getD b undef)):Sem Φ).run P w=.ok c w:=by
      unfold Ei at e
      split at e
      .rename_i M off C
       have B:=j.2.2 b au
       simp only[qs,AM]at C
       rw[C]at B
       let⟨p,ag,k⟩:=wP B
       simp only[execOp,eC,k,Instr.loadAt,Instr.sureAddr,e7,fI,eY]at f
       simp only[k,asAddr,e7,fI,eY]
       generalize (loadVar t ⟨p.ba,p.del+off,none⟩).run P w=q at f
       cases q with
       |ok N w'=>simp at f;obtain⟨rfl,rfl⟩:=f;rfl
       |halt _ _=>simp at f
      cases e
     rw[afB,e7]
     simp only[Ky]
     rw[E]
     simp only[eY,e7,z,fI]
  cases J
end
end Go.cE
namespace Go.cE
open Go.Proofs.Tryz
def ya(b:mz)(a:Ω)(ds:List Deferred)(todo:List Item):Frame:={fr b a ds todo with mode:=.returning}
section
variable {P:Program} {ρ:cj} {b:mz} {a:Ω} {ds:List Deferred} {k:List Item} {cs:List Frame} {w:Γ}
def asc(G:b.roundOf=none):step P (lone (fr b a ds (.code .ret::k)) cs w)=.next (lone (ya b a ds (.code .ret::k)) cs w):=
 mv (by simp[stepG,stepG.exec,fr,ya,G])
def ar'(G:b.roundOf=none):step P (lone (fr b a ds []) cs w)=.next (lone (ya b a ds []) cs w):=
 mv (by simp[stepG,stepG.exec,fr,ya,G])
variable{r:Nat}{o:Obj}
def Vj(h:w.heap[r]? =some o)(d:∀c e f,o≠ .cells c e f):(getObj r).run P w=.ok o w:=by cases o<;>first|exact(d _ _ _ rfl).elim|simp only[getObj,Sem.run,h]
def KB{d:Obj}(h:w.heap[r]? =some o)(g:∀c e f,o≠ .cells c e f):(setObj r d).run P w=.ok () (gZ w r d):=by cases o<;>first|exact(g _ _ _ rfl).elim|(simp only[setObj,Sem.run,h];rfl)
def aJS(h:w.heap[r]? =some (.deferred (some []))): step P (lone (ya b a ({target:=.collected r,args:=#[]}::ds) k) cs w)=.next (lone (ya b a ds k) cs (gZ w r (.deferred none))):=by
 have c:(Instr.takeDeferred r).run P w=.ok [] (gZ w r (.deferred none)):=by simp[Instr.takeDeferred,Vj (P:=P) h,KB (P:=P) h]
 exact mv (by simp[stepG,unwind,ya,fr,HW,c])
def c_.frame{σ:b9}{h:ay}(r:c_ ρ σ h w){w':Γ}(e:∀k,lV σ h k->w'.heap[k]? =w.heap[k]?):c_ ρ σ h w':=
 ⟨λj y c=>by
  let⟨p,ag,d⟩:=r.ba j y c
  exact⟨p,ag,by rw[e p.ba ⟨j,y,p,c,ag,rfl⟩];exact d⟩,r.inj,r.kn⟩
def c_.akn{σ:b9}{h:ay}(r:c_ ρ σ h w){j:Nat}{x:eK}{p:nT}(c:h.cW j=some x)(ag:σ j=some p)(d:j<eG)(o:Obj):c_ ρ σ (h.db j none) (gZ w p.ba o)/\jY σ h w σ (h.db j none) (gZ w p.ba o):=by
 let⟨l,m⟩:=r.drop d;have n:=λi=>ay.vJ h j i none d;have pf:∀k,lV σ (h.db j none) k->(gZ w p.ba o).heap[k]? =w.heap[k]? :=λk ⟨i,y,q,hi,f,e⟩=>by rw[n]at hi;by_cases ak:i=j;rw[ci ak]at hi;cases hi;rw[bo ak]at hi;have:=r.inj i j y x q p hi c f ag ak;rw[e]at this;exact ab4
 refine⟨l.frame pf,⟨.refl _,λ_ H I=>(I H).elim,aY _,by simp[gZ],λk s g=>?_,m.oe,rfl,rfl,rfl⟩⟩;have:p.ba≠k:=λe=>g ⟨j,x,p,c,ag,e⟩;simp[gZ,AB,this]
def aed:∀{kb:List Nat} {h d:ay} {σ:b9} {w:Γ} {ds:List Deferred},Nq kb h=some d->wR σ kb=some ds->c_ ρ σ h w->
  ∃w',c_ ρ σ d w'/\jY σ h w σ d w'/\Steps P (lone (ya b a ds k) cs w) (lone (ya b a [] k) cs w')
 |[],h,d,σ,w,ds,hd,c,e=>by simp[Nq]at hd;subst hd;simp[wR]at c;subst c;exact⟨w,e,.refl _ _ _,.refl _ _⟩
 |j::l,h,d,σ,w,ds,hd,c,e=>by
  simp only[Nq]at hd;split at hd
  .rename_i f;cases au:Nat.blt j eG with
   |false=>rw[au]at hd;simp at hd
   |true=>
    rw[au]at hd
    simp only[eZ]at hd
    have g:j<eG:=by simpa using au
    simp only[wR]at c
    split at c
    .rename_i p y ag i
     cases c
     let⟨q,m,s⟩:=e.ba j _ f
     obtain rfl:p=q:=gm (ag.symm.trans m)
     let⟨_,x⟩:=s
     let⟨n,o⟩:=e.akn f ag g (.deferred none)
     let⟨w',r,t,u⟩:=aed hd i n
     exact⟨w',r,o.trans t,.head (aJS x) u⟩
    .cases c
  .cases hd
def azP{f:FuncId}{fn:Func}{body:Code}{aB:Nat}{rs:List s2}{F:kB}(o:P.funcs[f]? =some fn)(G:fn.body=some body)(V:fn.name≠ "runtime.NumGoroutine")(D:fn.ntmps=aB)(dQ:aB<=256)(vW:Mq P aB fn.results.toList rs) {B:mz->Prop}(bg:B ⟨f,.normal,none⟩)(Y:ns P ρ aB B body F):nO P ρ f (DB aB rs F):=by
 intro σ args h v s cs w ar jS Z J;right;have N:(callFunc f cs.toArray).run P w=.ok (.enter f cs.toArray) w:=by simp[callFunc,o,V,G]
 refine⟨N,?_⟩;unfold DB at J;cases q:Nat.ble args aB with
 |false=>rw[q]at J;simp at J
 |true=>
  rw[q]at J;simp only[eZ]at J;have M:=hZ q;intro c g;have R:Frame.enter P f cs.toArray .normal=fr ⟨f,.normal,none⟩ (cs.toArray++Array.replicate (aB-cs.toArray.size) undef) [] [.code body]:=by simp[Frame.enter,fr,o,G,D]
  rw[R];have fb:Dl P ρ aB σ ⟨xq args 0 bY,h,[]⟩ (cs.toArray++Array.replicate (aB-cs.toArray.size) undef) [] w:=⟨.start jS M dQ,Z,rfl,ar⟩;have C:∀(e:X) (x:gU),(∀id,e≠ .exit id)->F ⟨xq args 0 bY,h,[]⟩=some (e,x)->Dz rs x=some (v,s)->
    ∃u w',ro ρ σ h w v s u w'/\Steps P (lone (fr ⟨f,.normal,none⟩ (cs.toArray++Array.replicate (aB-cs.toArray.size) undef) [] [.code body]) (c::g) w) (lone (c.finish u) g w'):=λe x W j d=>by
   let⟨A,bZ,n2,T,n,O,b7⟩:=Y σ _ e x j ⟨f,.normal,none⟩ bg [] (c::g) _ [] w fb;have Q:∃todo,Steps P (lone (fr ⟨f,.normal,none⟩ (cs.toArray++Array.replicate (aB-cs.toArray.size) undef) [] [.code body]) (c::g) w) (lone (ya ⟨f,.normal,none⟩ bZ n2 todo) (c::g) T):=by
    cases e with
    |iH=>exact⟨[],tT b7 (.one (ar' rfl))⟩
    |exit id=>exact(W id rfl).elim
    |ret=>let⟨dx,cw⟩:=b7;exact⟨.code .ret::dx,tT cw (.one (asc rfl))⟩
   let⟨todo,ik⟩:=Q;unfold Dz at d;split at d
   .rename_i I L;let⟨i,t,cv,ek⟩:=aed (P:=P) (b:=⟨f,.normal,none⟩) (a:=bZ) (k:=todo) (cs:=c::g) L n.d n.h;split at d
    .rename_i vs S;simp only[cx,iX]at d;obtain⟨rfl,rfl⟩:=d;let⟨r,u1,u2⟩:=ac1 n.g n.s t vW S;have df:=nu u1;have U:(fn.results.mapM (Ky bZ):Sem Ω).run P i=.ok r.toArray i:=by rw[afd];simp only[afl];rw[u2];rfl
     have d:∃u,aT ρ A (G1 vs)=some u/\(results fn bZ).run P i=.ok u i:=by
      rw[arb];simp only[e7];rw[U];simp only[eY,fI]
      match vs,r,u1,df with
      |[y],[u],u1,_=>let⟨z,K,cg⟩:=i' u1;cases cg;exact⟨u,K,aq⟩
      |[],[],u1,_=>exact⟨.tuple #[],by simp[G1,aT,b5],aq⟩
      |y::mT::l,u::z::m,u1,_=>exact⟨.tuple (u::z::m).toArray,by simp[G1,aT,u1],aq⟩
     let⟨u,E,H⟩:=d;exact⟨u,i,⟨A,E,t,O.trans cv⟩,tT ik (tT ek (.one (step_leave_returned ⟨rfl,rfl,rfl,fn,o,H⟩)))⟩
    cases d
   cases d
  split at J;rename_i x j;exact C .iH x (λid ak=>by cases ak) j J;rename_i x j;exact C .ret x (λid ak=>by cases ak) j J;cases J
end
end Go.cE
namespace Go.cE
section
variable {P:Program} {ρ:cj}
def Yj(esz:Nat):List U->ay->Option U
 |[.dM],_=>wg 0
 |[.slice b off _ e cap],h=>bif Nat.beq e esz then match IY h b off esz cap with
  |some (c,true)=>wg c
  |_=>none
  else none
 |_,_=>none
variable{o:Oper}{t e:TypeId}
def axs{c:Call}{i:TypeInfo}(h:o.op=.call c)(O:c.callee=.builtin .cap)(aj:c.argTypes[0]? =some t)(hu:P.underlying t=some (.slice e)):AZ P ρ o (Yj i.size):=by
 intro σ s q a w v ar f l J;rw[Ep h O]at f;have j:∀(n:Nat) (u:Φ),(c.args.map (eC a)).toList=[u]->(Builtin.cap_ c.argTypes o.type #[u]).run P w=.ok (goInt n) w->(execOp (eC a) o).run P w=.ok (.value (.int .i64 (.ofNat n))) w:=λn u L ae=>by exact aoh
 unfold Yj at J;split at J;rw[GU]at J;cases J;let⟨x,d,L⟩:=i' f;simp only[aT,cx]at d;subst d;exact⟨_,rfl,j 0 _ L (by simp[Builtin.cap_,aj,h_ hu])⟩
 .rename_i b off n m cap;cases g:Nat.beq m i.size with
  |false=>rw[g]at J;simp at J
  |true=>
   rw[g]at J;obtain rfl:=gK g;simp only[eZ]at J;split at J;rename_i up k;rw[GU]at J;cases J;let⟨x,d,L⟩:=i' f;obtain⟨p,ag,rfl⟩:=zr d;let⟨_,dx⟩:=Yi l ag k;have:=dx rfl;exact⟨_,rfl,j up _ L (by simp[Builtin.cap_,aj,h_ hu,<-this])⟩;cases J
 cases J
def YB(esz:Nat):List U->ay->Option (U×ay)
 |[d,x],h=>match Vr esz h x with
  |none=>none
  |some (n,l)=>match d with
   |.dM=>some (.int .i64 (.ofNat 0),h)
   |.slice b off len e _=>bif Nat.beq e esz then
     (bif Nat.beq (min n len) 0 then some (.int .i64 (.ofNat 0),h)else match h.cW b with
     |some (.cells c vs a true)=>bif Nat.ble (off+min n len*esz) vs.length&&l.all qk&&Nat.blt b eG then
      wo (min n len) λm=>some (.int .i64 (.ofNat m),h.db b (some (.cells c (An vs off (l.take (min n len*esz))) a true)))else none
     |_=>none)
    else none
   |_=>none
 |_,_=>none
variable{s:TypeId}
def ax_{c:Call}{f:TypeInfo}(h:o.op=.call c)(O:c.callee=.builtin .copy)(y:c.argTypes[0]? =some s)(hu:P.underlying s=some (.slice e))(aP:P.info? e=some f):Da P ρ o (YB f.size):=by
 intro σ vs W a w v V ar B j J;rw[Ep h O]at B;have done:∀(u x t:Φ) (w':Γ),(c.args.map (eC a)).toList=[u,x]->(Builtin.copy_ c.argTypes o.type #[u,x]).run P w=.ok t w'->(execOp (eC a) o).run P w=.ok (.value t) w':=λu x t w' L ae=>by exact acj
 unfold YB at J;split at J
 .rename_i d x;split at J;cases J
  .rename_i n l F;let⟨s7,m,q,T,L⟩:=lY B;let⟨r,tt,A⟩:=adx (P:=P) j F T;have a0:∀u,(#[u,m]:Ω)[0]? =some u:=λ_=>rfl;have bZ:∀u,(#[u,m]:Ω)[1]? =some m:=λ_=>rfl;split at J;simp at J;obtain⟨rfl,rfl⟩:=J;simp only[aT,cx]at q;subst q;let⟨C,_,g⟩:=A 0 (dh _);refine .inl ⟨_,w,done _ _ (.int .i64 0) w L ?_,σ,rfl,j,.refl _ _ _⟩;simp only[Builtin.copy_,y,a0,bZ,e7,h_ hu,eY,r,qo aP,Nat.min_zero,g,fI,goInt];rfl
   .rename_i b off len N cap;cases z:Nat.beq N f.size with
    |false=>rw[z]at J;simp at J
    |true=>
     rw[z]at J;obtain rfl:=gK z;simp only[eZ]at J;obtain⟨p,ag,rfl⟩:=zr q;let⟨C,i,g⟩:=A (min n len) (Nat.min_le_left _ _);cases af:Nat.beq (min n len) 0 with
     |true=>rw[af]at J;simp at J;obtain⟨rfl,rfl⟩:=J;have D:=gK af;rw[D]at g i;simp[b5]at i;subst i;refine .inl ⟨_,w,done _ _ (.int .i64 0) w L ?_,σ,rfl,j,.refl _ _ _⟩;simp only[Builtin.copy_,y,a0,bZ,e7,h_ hu,eY,r,qo aP,show Nat.min n len=0 from D,g,fI,goInt];simp[storeCells]
     |false=>
      rw[af]at J;simp only[jL]at J;split at J
      .rename_i Y E X G;cases k:(Nat.ble (off+min n len*f.size) E&&l.all qk&&Nat.blt b eG)with
       |false=>rw[k]at J;simp at J
       |true=>
        rw[k]at J;simp only[eZ,Aq,cx,iX]at J;obtain⟨rfl,rfl⟩:=J;simp only[dW]at k;let⟨⟨c1,c2⟩,c3⟩:=k;have c1:=hZ c1;have c3:b<eG:=by simpa using c3
        have S:(l.take (min n len*f.size)).all qk=true:=by rw[iq]at c2|-;exact λai I=>c2 ai (Lf I)
        have Z:min n len*f.size<=n*f.size:=rm _ (Nat.min_le_left _ _);let⟨M,w',Q,R,U,K⟩:=j.aew (off:=off) G c3 i bw (FC S i);obtain rfl:p=M:=gm (ag.symm.trans Q);refine .inl ⟨_,w',done _ _ (.int .i64 (.ofNat (min n len))) w' L ?_,σ,rfl,U,K⟩;have H:(Builtin.firstCells f.size (Nat.min n len) m).run P w=.ok C.toArray w:=g;simp only[Builtin.copy_,y,a0,bZ,e7,h_ hu,eY,r,qo aP,H,fI,goInt,R P];rfl
      cases J
   cases J
 cases J
def anW(a b:Int):Int:=bif wd a b then b else a
def ab2:List U->Option U
 |[.int k a,.int j b]=>bif decide (k=j)then some (.int k (anW a b))else none
 |_=>none
def aEE{c:Call}(h:o.op=.call c)(b:c.callee=.builtin .max):m1 P ρ o ab2:=by
 intro σ s a w v ar e J;rw[Ep h b]at e;unfold ab2 at J;split at J
 .rename_i k p j q;by_cases d:k=j
  .subst d;simp at J;subst J;let⟨m,l,i,g,f⟩:=lY e;obtain rfl:=o0 i;obtain rfl:=o0 g;refine⟨_,rfl,S5 h b λcs=>?_⟩;have aP:c.args.map (eC a)=#[.int k p,.int k q]:=by apply xG;rw[f]
   rw[aP];simp only[builtin,Builtin.max_,List.foldlM_cons,List.foldlM_nil,Builtin.max2,e7,fI,eY,anW,GP];by_cases au:p<q<;>simp[au]
  simp[d]at J
 cases J
end
section
variable {P:Program} {ρ:cj}
abbrev yS:=U×U×Nat
def Jj(k:U):List yS->Nat->Option (Option (Nat×U))
 |[],_=>some none
 |e::a,i=>match Bk k e.1 with
  |some true=>some (some (i,e.2.1))
  |some false=>Jj k a (i+1)
  |none=>none
def arI{σ:b9}{d:TypeDesc}{i:Nat}{x y:U}{g l:Φ}{b:Bool}(aj:q9 d=some i)(c:aT ρ σ x=some g)(a:aT ρ σ y=some l)(e:rQ i x=true)(h:Bk x y=some b):Instr.sameNow d g l=some b:=by unfold Bk at h;split at h;rename_i k p j q;by_cases f:k=j;subst f;simp at h;subst h;obtain rfl:=o0 c;obtain rfl:=o0 a;cases d<;>simp[q9]at aj<;>subst aj<;>simp[rQ]at e;simp only[Instr.sameNow,oR,Dy];rfl;simp[f]at h;cases h;obtain⟨m,rfl⟩:=us c;obtain⟨n,rfl⟩:=us a;cases d<;>simp[q9]at aj<;>subst aj<;>simp[rQ]at e;simp only[Instr.sameNow,beq_toListBytes,S2 m n];cases h;simp only[aT,cx]at c a;subst c;subst a;cases d<;>simp[q9]at aj<;>subst aj<;>simp[rQ]at e;rfl;cases h
def ajN{σ:b9}:∀{a:List yS} {b:List MapEntry},uv ρ σ a b->∀{i:Nat} {e:yS},a[i]? =some e->∃m,b[i]? =some m/\S1 ρ σ e m
 |[],[],_,i,e,h=>by simp at h
 |dA::a,f::b,⟨H,I⟩,i,e,h=>by
  cases i with
  |zero=>simp at h;subst h;exact⟨f,aq,H⟩
  |succ i=>simp at h;let⟨m,c,d⟩:=ajN I h;exact⟨m,by simpa using c,d⟩
 |[],_::_,h,_,_,_=>h.elim
 |_::_,[],h,_,_,_=>h.elim
def NE{σ:b9}{d:TypeDesc}{o:Nat}{k:U}{up:Φ}(aj:q9 d=some o)(g:aT ρ σ k=some up)(l:rQ o k=true):∀{a:List yS} {f:List MapEntry} {i:Nat} {r:Option (Nat×U)},uv ρ σ a f->Jj k a i=some r->
  match r with
  |none=>Instr.findNow d up f i=some none
  |some (j,v)=>∃c,Instr.findNow d up f i=some (some (j,c))/\aT ρ σ v=some c/\∃e,i<=j/\a[j-i]? =some e/\e.2.1=v/\Bk k e.1=some true
 |[],[],i,r,_,h=>by simp[Jj]at h;subst h;rfl
 |e::a,m::f,i,r,⟨⟨H,I,B⟩,s⟩,h=>by
  simp only[Jj]at h;split at h
  .rename_i aP;cases h;exact⟨m.val,by simp only[Instr.findNow,arI aj g H l aP],I,e,aY _,aq,rfl,aP⟩
  .rename_i aP;have b:=NE aj g l (i:=i+1) s h;have n:=arI aj g H l aP;cases r with
   |none=>simp only at b|-;simp only[Instr.findNow,n,b]
   |some q=>
    let⟨j,v⟩:=q
    simp only at b|-
    let⟨c,t,w,u,C,x,A,y⟩:=b
    refine⟨c,by simp only[Instr.findNow,n,t],w,u,z,?_,A,y⟩
    have:j-i=(j-(i+1))+1:=z
    rw[this];simpa using x
  .cases h
 |[],_::_,_,_,h,_=>h.elim
 |_::_,[],_,_,h,_=>h.elim
def Vg{w:Γ}{t:TypeId}{d:TypeDesc}{a:Nat}(hd:P.underlying t=some d)(aj:q9 d=some a)(e:Bool)(n:Nat)(v:Φ):(Instr.checkKey e (n+1) t v).run P w=.ok () w:=by cases d<;>simp[q9]at aj<;>simp[Instr.checkKey,h_ hd]
def Vh{w:Γ}{t:TypeId}{d:TypeDesc}(hd:P.underlying t=some d){k:Φ}{a:List MapEntry}{r:Option (Nat×Φ)}(h:Instr.findNow d k a 0=some r):(Instr.findKey t k a).run P w=.ok r w:=by simp[Instr.findKey,h_ hd,h]
variable{w:Γ}
def c_.map{σ:b9}{h:ay}(r:c_ ρ σ h w){b:Nat}{c:List yS}{up:Nat}(G:h.cW b=some (.map c up)):∃p a,σ b=some p/\p.del=0/\w.heap[p.ba]? =some (.map a up)/\uv ρ σ c a.toList/\p.ba<w.heap.size:=by let⟨p,ag,au,H,a,I,d⟩:=r.lt G;exact⟨p,a,ag,H,I,d,au⟩
def Kb(ok:Bool)(v:U)(there:Bool):U:=bif ok then .tup [v,.bool there]else v
def abU(a:Nat)(zero:U)(ok:Bool):List U->ay->Option U
 |[.Ek,k],_=>bif rQ a k then some (Kb ok zero false)else none
 |[.map b,k],h=>bif rQ a k then match h.cW b with
  |some (.map c _)=>match Jj k c 0 with
   |some (some (_,v))=>some (Kb ok v true)
   |some none=>some (Kb ok zero false)
   |none=>none
  |_=>none
  else none
 |_,_=>none
variable{ok:Bool}
def Yx{σ:b9}{there:Bool}{v:U}{c:Φ}(h:aT ρ σ v=some c):aT ρ σ (Kb ok v there)=some (if ok=true then .tuple #[c,.bool there]else c):=by cases ok;simpa[Kb]using h;simp[Kb,aT,b5,h]
def aEp{o:Oper}{t k e:TypeId}{x y:Operand}{ok:Bool}{kd:TypeDesc}{z:Nat}{I:TypeInfo}{ai:Φ}{A:U}(h:o.op=.lookup t x y ok)(hu:P.underlying t=some (.map k e))(n:P.underlying k=some kd)(aj:q9 kd=some z)(aP:P.info? e=some I)(M:I.zero=some ai)(L:ofValue ai=some A): AZ P ρ o (abU z A ok):=by
 intro σ s Y a w v ar F O J;have H:(zeroValue e).run P w=.ok ai w:=by simp[zeroValue,typeInfo,aP,M]
 have K:aT ρ σ A=some ai:=apS L;unfold abU at J;split at J
 .rename_i B;cases i:rQ z B with
  |false=>rw[i]at J;simp at J
  |true=>
   rw[i]at J;simp only[eZ,cx]at J;subst J;obtain⟨c,d,l,hd,g⟩:=lY F;simp[gf,h,Op.operands]at g;simp only[aT,cx]at l;subst l;refine⟨_,Yx K,?_⟩;have m:(Instr.findKey k d []).run P w=.ok none w:=Vh n rfl;have C:(Instr.lookup t (.map none) d ok).run P w=.ok (if ok=true then .tuple #[ai,.bool false]else ai) w:=by simp only[Instr.lookup,e7,h_ hu,eY,fI,Vg n aj _ 9999];rw[m];simp only[eY,e7,H,fI]
   simp only[execOp,h,g.1,g.2,e7,C,eY,fI]
 .rename_i b B;cases i:rQ z B with
  |false=>rw[i]at J;simp at J
  |true=>
   rw[i]at J;simp only[eZ]at J;split at J
   .rename_i X W G;obtain⟨c,d,l,hd,g⟩:=lY F;simp[gf,h,Op.operands]at g;simp only[aT,iW]at l;obtain⟨p,ag,rfl⟩:=l;obtain⟨N,S,R,_,V,E,_⟩:=O.map G;obtain rfl:p=N:=gm (ag.symm.trans R);have T:=Vj (P:=P) V (by intro c e f;simp);have base:∀(r:Option (Nat×Φ)),Instr.findNow kd d S.toList 0=some r->(Instr.lookup t (.map (some p.ba)) d ok).run P w=(match r with|some (_,v)=>.ok (if ok=true then .tuple #[v,.bool true]else v) w|none=>.ok (if ok=true then .tuple #[ai,.bool false]else ai) w):=λr C=>by
     simp only[Instr.lookup,e7,h_ hu,eY,T,fI,Vg n aj _ 9999,Vh n C];cases r with
     |none=>simp only[e7,H,eY,fI]
     |some q=>obtain⟨_,_⟩:=q;simp only[e7,fI,eY]
    split at J
    .rename_i j u m;cases J;obtain⟨Z,D,Q,_⟩:=NE aj hd i E m;refine⟨_,Yx Q,?_⟩;simp only[execOp,h,g.1,g.2,e7,base _ D,eY,fI]
    .rename_i m;cases J;have D:=NE aj hd i E m;refine⟨_,Yx K,?_⟩;simp only[execOp,h,g.1,g.2,e7,base _ D,eY,fI]
    .cases J
   .cases J
 .cases J
def abY:List U->Option eK
 |[]=>some (.map [] 0)
 |_=>none
def ab1(_:List U)(b:Nat):U:=.map b
def aEA{o:Oper}{t:TypeId}(h:o.op=.makeMap t none):H' P ρ o abY ab1:=by
 intro σ s a w x b ar d c G;unfold abY at c;split at c
 .cases c;refine⟨.map #[] 0,0,w.drawn,.map (some w),?_,by simp[ab1,aT,ea],rfl,#[],rfl,gL⟩;simp[execOp,h,Instr.makeMap]
 .cases c
def ab0(d:Nat):List U->ay->Option (U×ay)
 |[.map b,k,v],h=>bif rQ d k&&Nat.blt b eG then match h.cW b with
  |some (.map c a)=>match Jj k c 0 with
   |some (some (i,_))=>some (qG,h.db b (some (.map (c.modify i λe=>(k,v,e.2.2)) a)))
   |some none=>some (qG,h.db b (some (.map (c++[(k,v,a)]) (a+1))))
   |none=>none
  |_=>none
  else none
 |_,_=>none
def ajL{σ:b9}:∀{b d:List yS} {c a:List MapEntry},uv ρ σ b c->uv ρ σ d a->uv ρ σ (b++d) (c++a)
 |[],_,[],_,_,h=>h
 |_::_,_,_::_,_,⟨H,I⟩,h=>⟨H,ajL I h⟩
 |[],_,_::_,_,h,_=>h.elim
 |_::_,_,[],_,h,_=>h.elim
def ajO{σ:b9}{f:yS->yS}{g:MapEntry->MapEntry}:∀{a:List yS} {b:List MapEntry} {i:Nat},uv ρ σ a b->(∀e m,a[i]? =some e->b[i]? =some m->S1 ρ σ e m->S1 ρ σ (f e) (g m))->uv ρ σ (a.modify i f) (b.modify i g)
 |[],[],i,_,_=>by simp[uv]
 |e::a,m::b,0,⟨H,I⟩,c=>by simp only[List.modify_zero_cons];exact⟨c e m aq aq H,I⟩
 |e::a,m::b,i+1,⟨H,I⟩,c=>by simp only[List.modify_succ_cons];exact⟨H,ajO I λj l d k=>c j l (by simpa using d) (by simpa using k)⟩
 |[],_::_,_,h,_=>h.elim
 |_::_,[],_,h,_=>h.elim
def aIG{σ:b9}{x y:U}{d e:Φ}(b:aT ρ σ x=some d)(a:aT ρ σ y=some e)(h:Bk x y=some true)(n:Nat):Instr.sameBits (n+1) e d=true:=by unfold Bk at h;split at h;rename_i k p j q;by_cases c:k=j;subst c;simp[Dy]at h;subst h;obtain rfl:=o0 b;obtain rfl:=o0 a;simp[Instr.sameBits];simp[c]at h;simp[Vv]at h;subst h;obtain⟨f,rfl⟩:=us b;obtain⟨g,rfl⟩:=us a;simp only[Instr.sameBits];rw[beq_toListBytes,S2 f g,Vv];simp;simp at h;subst h;simp only[aT,cx]at b a;subst b;subst a;simp[Instr.sameBits];cases h
def aEC{o:Oper}{t k e:TypeId}{x y ai:Operand}{kd:TypeDesc}{H:Nat}(h:o.op=.mapUpdate t x y ai∨o.op=.insert t x y ai)(hu:P.underlying t=some (.map k e))(q:P.underlying k=some kd)(aj:q9 kd=some H):Da P ρ o (ab0 H):=by
 intro σ s F a w v aX ar M N J;have iF:gf o a=[eC a x,eC a y,eC a ai]:=by rcases h with h|h<;>simp[gf,h,Op.operands]
 rw[iF]at M;unfold ab0 at J;split at J
 .rename_i b W u;cases r:(rQ H W&&Nat.blt b eG)with
  |false=>rw[r]at J;simp at J
  |true=>
   rw[r]at J;simp only[eZ]at J;simp only[dW]at r;obtain⟨T,C⟩:=r;have C:b<eG:=by simpa using C
   split at J
   .rename_i bU A G;obtain⟨c,d,f,L,hd,O,K⟩:=Yu M;simp only[qs,AM]at K;obtain⟨b7,cw,iS⟩:=K;simp only[aT,iW]at L;obtain⟨p,ag,rfl⟩:=L;obtain⟨b1,z,ez,Z,I,j,au⟩:=N.map G;obtain rfl:p=b1:=gm (ag.symm.trans ez);have S:=Vj (P:=P) I (by intro c e f;simp);have R:∀(n:List yS) (l:Array MapEntry) (g:Nat),uv ρ σ n l.toList->(Instr.mapUpdate t (.map (some p.ba)) d f).run P w=.ok () (gZ w p.ba (.map l g))->
      EY P o a w λc w'=>∃E,aT ρ E qG=some c/\c_ ρ E (F.db b (some (.map n g))) w'/\jY σ F w E (F.db b (some (.map n g))) w':=λn l g aP ae=>by
     obtain⟨Y,bb⟩:=N.put (x:=.map n g) (o:=.map l g) G ag C au ⟨Z,l,rfl,aP⟩;refine .inr (.inl ⟨_,?_,σ,Na ρ σ,Y,bb⟩);rcases h with h|h<;>simp only[execOp,h,b7,cw,iS,e7,ae,eY,fI]
    split at J
    .rename_i i hB B;cases J;obtain⟨wQ,D,cv,dA,ek,Q,lm,kJ⟩:=NE aj hd T j B;simp only[afM]at Q;obtain⟨iG,yG,U⟩:=ajN j Q;have V:z[i]? =some iG:=by simpa using yG
     have X:(Instr.keyThatStays (((z[i]?).map (·.key)).getD d) d).run P w=.ok d w:=by rw[V];simp only[ov,Ln,Instr.keyThatStays];rw[ci (aIG hd U.1 kJ 9999)];rfl
     refine R _ (z.modify i λe=>{e with key:=d,val:=f}) A ?_ ?_
     .rw[Array.toList_modify];refine ajO j λe m cr dy ew=>⟨hd,O,ew.2.2⟩
     .simp only[Instr.mapUpdate,e7,h_ hu,eY,S,Vg q aj _ 9999,Vh q D,X,KB (P:=P) I (by intro c e f;simp)]
    .rename_i B;cases J;have D:=NE aj hd T j B;refine R _ (z.push {key:=d,val:=f,born:=A}) (A+1) ?_ ?_
     .rw[Array.toList_push];exact ajL j ⟨⟨hd,O,rfl⟩,gL⟩
     .simp only[Instr.mapUpdate,e7,h_ hu,eY,S,Vg q aj _ 9999,Vh q D,KB (P:=P) I (by intro c e f;simp)]
    .cases J
   .cases J
 .cases J
end
section
variable {P:Program} {ρ:cj}
def asi{σ:b9}{s:List Nat}(h:kY s):aT ρ σ (.str s)=some (.string (e2 s)):=by
 have:s.all (λn=>decide (n<256))=true:=by simpa[kY]using h
 simp only[aT,this,oR]
def Ih:List U->Option (List Nat)
 |[]=>some []
 |.int .u8 (.ofNat m)::l=>bif Nat.blt m 256 then(match Ih l with
  |some r=>some (m::r)
  |none=>none)else none
 |_=>none
def adE{σ:b9}:∀{l:List U} {cs:List Φ} {s:List Nat},Ih l=some s->b5 ρ σ l=some cs->kY s/\s.length=l.length/\cs=(s.map Int.ofNat).map (Value.int .u8)
 |[],cs,s,h,a=>by simp[Ih]at h;subst h;simp[b5]at a;subst a;exact⟨by simp[kY],rfl,rfl⟩
 |v::l,cs,s,h,a=>by
  unfold Ih at h;split at h
  .cases h;rename_i e;cases e
  .rename_i m n e;cases e;cases b:Nat.blt m 256 with
   |false=>rw[b]at h;simp at h
   |true=>
    rw[b]at h
    simp only[eZ]at h
    split at h
    .rename_i r g
     cases h
     let⟨c,o,H,I,i⟩:=qK a
     obtain rfl:=o0 H
     let⟨d,j,k⟩:=adE g I
     have f:m<256:=by simpa using b
     refine⟨?_,by simp[j],by rw[i,k];rfl⟩
     simp only[kY,List.all_cons,dW]at d|-
     exact⟨by simpa using f,d⟩
    .cases h
  .cases h
def aj7:∀(s:List Nat) (a:Ψ),(s.map Int.ofNat).foldl (λr n=>r.push (UInt8.ofNat n.toNat)) a=⟨a.data++(s.map UInt8.ofNat).toArray⟩
 |[],a=>by simp
 |m::s,a=>by simp only[qu,Lc];rw[aj7 s];apply KY;simp[ByteArray.push]
def Ya:List U->ay->Option U
 |[.dM],_=>some (.str [])
 |[.slice b o n _ _],h=>bif Nat.beq n 0 then some (.str [])else match h.cW b with
  |some (.cells _ vs _ _)=>bif Nat.ble (o+n) vs.length then(match Ih ((vs.drop o).take n)with
   |some s=>some (.str s)
   |none=>none)else none
  |_=>none
 |_,_=>none
def axj{o:Oper}{s d e:TypeId}{x:Operand}(h:o.op=.convert s d x)(y:P.underlying s=some (.slice e))(aP:P.underlying e=some (.int .u8))(hd:P.underlying d=some .string):AZ P ρ o Ya:=by
 intro σ l N a w v ar q B J;unfold Ya at J;split at J
 .cases J;obtain⟨c,i,g⟩:=i' q;simp[gf,h,Op.operands]at g;simp only[aT,cx]at i;subst i;refine⟨.string (e2 []),rfl,?_⟩;simp only[execOp,h,g,e7,ath w s d e _ _ _ y aP hd];rfl
 .rename_i b off n esz cap;obtain⟨c,i,g⟩:=i' q;simp[gf,h,Op.operands]at g;obtain⟨f,E,rfl⟩:=zr i;have u:∀(an:List Nat),kY an->(loadCells ⟨f.ba,f.del+off,none⟩ n).run P w=.ok ((an.map Int.ofNat).map (Value.int .u8)).toArray w->
    ∃c,aT ρ σ (.str an)=some c/\(execOp (eC a) o).run P w=.ok (.value c) w:=λan ok m=>by
   refine⟨.string (e2 an),asi ok,?_⟩;have r:=run_bytesToString w ⟨f.ba,f.del+off,none⟩ n (jP f off esz cap) _ m;rw[aj7]at r;simp only[execOp,h,g,e7,ath w s d e _ _ _ y aP hd,r,eY,fI];congr 2;simp[e2]
  cases af:Nat.beq n 0 with
  |true=>rw[af]at J;simp only[eZ,cx]at J;subst J;obtain rfl:=gK af;exact u [] (by simp[kY]) (by simp[loadCells,loadCellsFrom])
  |false=>
   rw[af]at J;simp only[jL]at J;split at J
   .rename_i elem vs T wr G;cases k:Nat.ble (off+n) vs with
    |false=>rw[k]at J;simp at J
    |true=>
     rw[k]at J;simp only[eZ]at J;have k:=hZ k;split at J
     .rename_i an K;cases J;obtain⟨p,arr,bd,cs,ag,H,I,M,L,t,F,S,R⟩:=B.cells G;obtain rfl:p=f:=gm (ag.symm.trans E);have Q:=nu t;obtain⟨C,O,D⟩:=adE K (ur n (vF off t));have m:=P3 (P:=P) (w:=w) p.ba (p.del+off) n ((cs.drop off).take n) bw λj A=>by rw[k4,F (off+j) z];simp[pk,A]
      refine u an C ?_;rw[m,D]
     .cases J
   .cases J
 .cases J
def aIC{w:Γ}{r:Nat}{a:TypeId×Nat}(h:w.shape? r=some a):(viewAt r).run P w=.ok none w:=by simp[viewAt,h]
def aIz{w:Γ}{r n:Nat}{e:TypeId}(h:w.shape? r=some (e,n)):(cellsIn r).run P w=.ok (some n) w:=by simp[cellsIn,h]
def arG{w:Γ}{a:Addr}{b:TypeId×Nat}(h:w.shape? a.block=some b):(Conv.seenAt a).run P w=.ok a w:=by simp[Conv.seenAt,aIC h]
def ad4:List U->ay->Option U
 |[.rU],_=>some .rU
 |[.ji b o],h=>match h.cW b with
  |some (.cells _ vs _ _)=>bif Nat.blt o vs.length then some (.ji b o)else none
  |_=>none
 |_,_=>none
def aKW{o:Oper}{s d t:TypeId}{x:Operand}{e:TypeInfo}(h:o.op=.convert s d x)(m_:P.underlying s=some (.pointer t))(hd:P.underlying d=some .unsafePointer)(aj:P.info? t=some e)(f:e.size≠0):AZ P ρ o ad4:=by
 intro σ l A a w v ar V k J;unfold ad4 at J;split at J
 .cases J;exact aok
 .rename_i b off;split at J
  .rename_i elem vs E wr G;cases au:Nat.blt off vs with
   |false=>rw[au]at J;simp at J
   |true=>
    rw[au]at J;simp only[eZ,cx]at J;subst J;have au:off<vs.length:=by simpa using au
    obtain⟨c,O,L⟩:=i' V;simp[gf,h,Op.operands]at L;obtain⟨j,m,rfl⟩:=wP O;obtain⟨p,arr,bd,cs,ag,H,I,u,r,y,C,D,B⟩:=k.cells G;obtain rfl:p=j:=gm (ag.symm.trans m);refine⟨_,O,?_⟩;have g:w.shape? p.ba=some (elem,arr.size):=by simp[World.shape?,H]
    have n:=arG (P:=P) (a:=⟨p.ba,p.del+off,none⟩) g;have i:=aIz (P:=P) g;have q:¬(p.del+off≥arr.size):=z;simp only[execOp,h,L,convert,h_ m_,h_ hd,e7,eY,Conv.unsafePointer,n,i,qo aj,q,f,fI];simp[f]
  .cases J
 .cases J
def acA(u l6:Nat):List U->ay->Option U
 |[.rU],_=>some .rU
 |[.ji b o],h=>match h.cW b with
  |some (.cells e vs true _)=>bif Nat.beq e u&&Nat.beq (Nat.mod o l6) 0&&Nat.ble (o+l6) vs.length then some (.ji b o)else none
  |_=>none
 |_,_=>none
variable{u:TypeId}{n:Nat}
def aEg{l6 off:Nat}(a:P.cellsOf u=l6)(d:l6≠0)(af:off%l6=0)(b:off+l6<=n):liesAt P P.depth u (n/l6) off u 1=true:=by
 have hd:P.depth=(2*(P.types.size+Made.depth)+1)+1:=rfl;rw[hd];simp only[liesAt,Q2];left;rw[hd];have:off/l6+1<=n/l6:=by have:=atD (c:=l6) b;rw[Nat.add_div_right _ z]at this;exact this
 simp[rowAt,a,d,af,this,sameLayout]
def aFZ{o:Oper}{s d u:TypeId}{x:Operand}{e:TypeInfo}(h:o.op=.convert s d x)(m_:P.underlying s=some .unsafePointer)(hd:P.underlying d=some (.pointer u))(hu:P.info? u=some e)(n:e.size≠0):AZ P ρ o (acA u e.size):=by
 intro σ l D a w v ar V r J;unfold acA at J;split at J
 .cases J;exact aok
 .rename_i b off;split at J
  .rename_i elem vs wr G;cases f:(Nat.beq elem u&&Nat.beq (Nat.mod off e.size) 0&&Nat.ble (off+e.size) vs)with
   |false=>rw[f]at J;simp at J
   |true=>
    rw[f]at J;simp only[eZ,cx]at J;subst J;simp only[dW]at f;obtain⟨⟨ak,g⟩,i⟩:=f;obtain rfl:=gK ak;have g:off%e.size=0:=gK g;have i:=hZ i;obtain⟨c,O,L⟩:=i' V;simp[gf,h,Op.operands]at L;obtain⟨q,y,rfl⟩:=wP O;obtain⟨p,arr,bd,cs,ag,H,I,B,m,C,K,M,F⟩:=r.cells G;obtain rfl:p=q:=gm (ag.symm.trans y);obtain⟨E,t⟩:=m rfl;refine⟨_,O,?_⟩;have k:w.shape? p.ba=some (elem,arr.size):=by simp[World.shape?,H]
    have A:=arG (P:=P) (a:=⟨p.ba,p.del+off,none⟩) k;have j:P.cellsOf elem=e.size:=by simp[Program.cellsOf,hu]
    have J:(variablesAt ⟨p.ba,p.del+off,none⟩ elem 1).run P w=.ok true w:=by simp only[variablesAt,e7,EL,eY,run_shape,k,fI,j];rw[aEg j n (by rw[t];simpa using g) z]
    simp only[execOp,h,L,convert,h_ m_,h_ hd,e7,eY,Conv.unsafePointer,A,qo hu,J,fI];simp
  .cases J
 .cases J
def adp:List U->ay->Option U
 |[.dM],_=>some .rU
 |[.slice b o n esz none],h=>match h.cW b with
  |some (.cells _ vs _ _)=>bif Nat.ble (o+esz) vs.length&&Nat.blt 0 esz then some (.ji b o)else none
  |_=>none
 |_,_=>none
def aJj{o:Oper}{c:Call}(h:o.op=.call c)(j:c.callee=.builtin .unsafeSliceData):AZ P ρ o adp:=by
 intro σ l B a w v ar g q J;rw[Ep h j]at g;have done:∀(u r:Φ),(c.args.map (eC a)).toList=[u]->(Builtin.unsafeSliceData_ c.argTypes o.type #[u]).run P w=.ok r w->(execOp (eC a) o).run P w=.ok (.value r) w:=λu r d k=>by(refine S5 h j λcs=>?_;have aP:c.args.map (eC a)=#[u]:=by apply xG;rw[d]);rw[aP];simp only[builtin,e7,k,eY,fI]
 unfold adp at J;split at J
 .cases J;obtain⟨t,f,d⟩:=i' g;simp only[aT,cx]at f;subst f;exact⟨_,rfl,done _ _ d (Lib.run_unsafeSliceData_nil w _ _ _ _)⟩
 .rename_i b off n esz;split at J
  .rename_i elem vs F wr G;cases e:(Nat.ble (off+esz) vs&&Nat.blt 0 esz)with
   |false=>rw[e]at J;simp at J
   |true=>
    rw[e]at J;simp only[eZ,cx]at J;subst J;simp only[dW]at e;obtain⟨ak,i⟩:=e;have ak:=hZ ak;have i:0<esz:=by simpa using i
    obtain⟨t,f,d⟩:=i' g;obtain⟨m,s,rfl⟩:=zr f;obtain⟨p,arr,bd,cs,ag,H,I,y,x,A,D,E,C⟩:=q.cells G;obtain rfl:p=m:=gm (ag.symm.trans s);refine⟨.pointer (some ⟨p.ba,p.del+off,none⟩),by simp[aT,ag],done _ _ d (Lib.run_unsafeSliceData_row w _ _ _ _ _ ?_)⟩;simp only[jP];have:1<=(p.tot-off)/esz:=(atE i).2 z;omega
  .cases J
 .cases J
def aeb(e:Nat):List U->ay->Option (U×ay)
 |[.rU,.int .i64 (.ofNat 0)],h=>some (.str [],h)
 |[.ji b o,.int .i64 (.ofNat n)],h=>match h.cW b with
  |some (.cells a vs c wr)=>bif Nat.beq a e&&Nat.blt 0 n&&Nat.ble (o+n) vs.length&&Nat.blt b eG&&Nat.blt n 9223372036854775807 then(match Ih ((vs.drop o).take n)with
   |some s=>some (.str s,h.db b (some (.cells a vs c false)))
   |none=>none)else none
  |_=>none
 |_,_=>none
def azN{w:Γ}{r o n:Nat}{arr:Ω}{elem:TypeId}{bd:Nat×Nat}(h:w.heap[r]? =some (.cells arr elem bd))(b:n≠0):∃a,w.freeze ⟨r,o,none⟩ n=gZ w r (.cells arr elem a):=by
 obtain⟨eo,hi⟩:=bd;refine⟨if eo==hi then(o,o+n)else(min eo o,max hi (o+n)),?_⟩;unfold World.freeze gZ;rw[bo b];congr 1;apply QY;intro i;rw[VQ,AB];have au:r<w.heap.size:=(hl.1 h).1;by_cases e:r=i
 .subst e;simp only[oR,h,ov,au]
 .simp[e]
def aEf{e:TypeId}(a:P.cellsOf e=1)(count off n:Nat)(b:off+n<=count):liesAt P P.depth e count off e n=true:=by have hd:P.depth=(2*(P.types.size+Made.depth)+1)+1:=rfl;rw[hd];simp only[liesAt,Q2];left;rw[hd];simp[rowAt,a,b,sameLayout,Nat.mod_one]
def aLU{o:Oper}{c:Call}{y e:TypeId}{F:TypeInfo}(h:o.op=.call c)(O:c.callee=.builtin .unsafeString)(M:c.argTypes[0]? =some y)(ez:P.underlying y=some (.pointer e))(V:P.info? e=some F)(U:F.size=1):Da P ρ o (aeb e):=by
 intro σ l ck a w v aX ar i s J;rw[Ep h O]at i;have T:IntKind.i64.max=9223372036854775807:=rfl;have done:∀(u x r:Φ) (w':Γ),(c.args.map (eC a)).toList=[u,x]->(Builtin.unsafeString_ c.argTypes o.type #[u,x]).run P w=.ok r w'->(execOp (eC a) o).run P w=.ok (.value r) w':=λu x r w' L ae=>by exact acj
 unfold aeb at J;split at J
 .simp only[cx,iX]at J;obtain⟨rfl,rfl⟩:=J;obtain⟨ja,pA,g,A,L⟩:=lY i;simp only[aT,cx]at g;subst g;obtain rfl:=o0 A;refine .inl ⟨.string .empty,w,done _ _ _ _ L ?_,σ,?_,s,.refl _ _ _⟩
  .change(asInt (.int .i64 (Int.ofNat 0)) >>= _:Sem Φ).run P w=_;simp[asInt,asIntOf,T,M]
  .rfl
 .rename_i b off n;split at J
  .rename_i d vs ku wr G;cases f:(Nat.beq d e&&Nat.blt 0 n&&Nat.ble (off+n) vs&&Nat.blt b eG&&Nat.blt n 9223372036854775807)with
   |false=>rw[f]at J;simp at J
   |true=>
    rw[f]at J;simp only[eZ]at J;simp only[dW]at f;obtain⟨⟨⟨⟨ak,C⟩,K⟩,t⟩,Q⟩:=f;obtain rfl:=gK ak;have C:0<n:=by simpa using C
    have K:=hZ K;have t:b<eG:=by simpa using t
    have Q:n<9223372036854775807:=by simpa using Q
    split at J
    .rename_i an fb;simp only[cx,iX]at J;obtain⟨rfl,rfl⟩:=J;obtain⟨ja,pA,g,A,L⟩:=lY i;obtain⟨b1,ij,rfl⟩:=wP g;obtain rfl:=o0 A;obtain⟨p,arr,bd,cs,ag,H,I,ah,X,q,fY,fh,e8⟩:=s.cells G;obtain rfl:p=b1:=gm (ag.symm.trans ij);have df:=nu q;obtain⟨E,cv,ek⟩:=adE fb (ur n (vF off q));have D:an.length=n:=by rw[cv];simp;omega
     obtain⟨B,vO⟩:=azN (o:=p.del+off) H (show n≠0 by omega);have mI:p.ba<w.heap.size:=(hl.1 H).1;obtain⟨Y,bb⟩:=s.put (x:=.cells d vs ku false) (o:=.cells arr d B) G ag t mI ⟨arr,B,rfl,I,ah,X,⟨cs,q,fh⟩,λh=>by cases h⟩;refine .inl ⟨.string (e2 an),_,done _ _ _ _ L ?_,σ,asi E,Y,bb⟩;have N:P.cellsOf d=1:=by simp[Program.cellsOf,V,U]
     have nD:w.shape? p.ba=some (d,arr.size):=by simp[World.shape?,H]
     have W:(variablesAt ⟨p.ba,p.del+off,none⟩ d n).run P w=.ok true w:=by simp only[variablesAt,e7,EL,eY,run_shape,nD,fI,N,Nat.div_one];rw[aEf N _ _ _ z]
     have R:=Lib.run_loadBytes (P:=P) w (an.map UInt8.ofNat) ⟨p.ba,p.del+off,none⟩ .empty (λj x k=>by
      rw[zg,k4]
      have Z:j<n:=by
       have:=(kL.1 k).1
       simpa[D]using this
      rw[fY (off+j) z]
      have:((cs.drop off).take n)[j]? =cs[off+j]? :=by simp[pk,Z]
      rw[<-this,ek]
      simp only[ou,iW]at k
      obtain⟨m,S,rfl⟩:=k
      simp only[ou,S,ov]
      have:m<256:=by
       have:=iq.1 E m (CO S)
       simpa using this
      congr 1
      simp[AL this])
     rw[Wh,D]at R;have rD:(elemOf y).run P w=.ok d w:=by simp[elemOf,h_ ez]
     have bT:¬((n:Int)<0):=z;have eW:¬((n:Int)>9223372036854775807):=z;have he:¬((n:Int)=0):=z;change(asInt (.int .i64 (Int.ofNat n)) >>= _:Sem Φ).run P w=_;simp only[asInt,asIntOf,e7,fI,eY,M,T,EO,bT,eW,he,pZ,rD,Rg,W,oR,R,run_freeze,vO];congr 2;simp[e2]
    .cases J
  .cases J
 .cases J
end
end Go.cE
namespace Go.cE
open Go.Proofs.Tryz
def qz(P:Program)(f:FuncId)(e:Ω->Sem Φ):Prop:=∀args w,(callFunc f args).run P w=((e args).run P w).andThen λv w'=>.ok (.value v) w'
section
variable {P:Program} {ρ:cj}
variable{f:FuncId}
def qz.hs{fn:Func}{e:Ω->Sem Φ}(c:P.funcs[f]? =some fn)(a:(fn.name== "runtime.NumGoroutine")=false)(G:fn.body.isNone=true)(b:Extern.findNext fn=none)(aP:Extern.find fn=some e):qz P f e:=
 λargs w=>run_callFunc_extern c a G b aP args w
def qz.fn{e:Ω->Sem Φ}(h:qz P f e){F:List U->ay->Option (U×ay)} (g:∀σ args a v b cs w,kM P σ->b5 ρ σ args=some cs->c_ ρ σ a w->F args a=some (v,b)->∃c w',(e cs.toArray).run P w=.ok c w'/\ro ρ σ a w v b c w'):nO P ρ f F:=by intro σ args a v b cs w ar d i J;let⟨c,w',H,I⟩:=g σ args a v b cs w ar d i J;exact .inl ⟨c,w',by rw[h cs.toArray w,H];rfl,I⟩
def qz.pure{e:Ω->Sem Φ}(h:qz P f e){F:List U->Option U}
  (i:∀σ args v cs w,b5 ρ σ args=some cs->F args=some v->∃c,(e cs.toArray).run P w=.ok c w/\aT ρ σ v=some c):nO P ρ f (λa b=>match F a with|some v=>some (v,b)|none=>none):=
 h.fn λσ args b v k cs w ar d j J=>by
  split at J
  .rename_i l g
   simp only[cx,iX]at J
   obtain⟨rfl,rfl⟩:=J
   let⟨c,H,I⟩:=i σ args _ cs w d g
   exact⟨c,w,H,σ,I,j,.refl _ _ _⟩
  .cases J
def adc:List U->Option U
 |[x]=>some x
 |_=>none
def aFJ(h:qz P f Extern.AbiNoEscape.same):nO P ρ f (λa d=>match adc a with|some v=>some (v,d)|none=>none):=
 h.pure λσ args v cs w b J=>by
  unfold adc at J
  split at J
  .cases J
   obtain⟨x,c,rfl⟩:=i' b
   exact⟨x,rfl,c⟩
  .cases J
def O3(c:Nat):List Nat->Nat->Int
 |[],_=> -1
 |b::l,i=>bif Nat.beq b c then .ofNat i else O3 c l (i+1)
variable{b:Nat}
def asK{a:Nat}(aL:a<256)(G:b<256):(UInt8.ofNat a==UInt8.ofNat b)=Nat.beq a b:=by by_cases h:a=b;subst h;simp;rw[ML h,mx];intro e;have:=iY UInt8.toNat e;simp[AL aL,AL G]at this;exact h this
def amW{c:Nat}(a:c<256):∀(s:List Nat) (i:Nat),kY s->O3 c s i=if Lib.indexByte (s.map UInt8.ofNat) (UInt8.ofNat c)= -1 then-1 else Lib.indexByte (s.map UInt8.ofNat) (UInt8.ofNat c)+i
 |[],i,_=>by simp[O3,Lib.indexByte]
 |b::s,i,h=>by
  let⟨H,I⟩:=PK h;simp only[O3,qu,Lib.indexByte,asK H a];cases G:Nat.beq b c with
  |true=>simp
  |false=>
   simp only[jL,re,pZ]
   rw[amW a s (i+1) I]
   have:=Lib.indexByte_ge (s.map UInt8.ofNat) (UInt8.ofNat c)
   by_cases e:Lib.indexByte (s.map UInt8.ofNat) (UInt8.ofNat c)= -1
   .simp[e]
   .have d:(Lib.indexByte (s.map UInt8.ofNat) (UInt8.ofNat c)== -1)=false:=by simpa using e
    rw[bo e,d]
    simp only[re,pZ]
    rw[bo z]
    omega
def abu:List U->Option U
 |[.str s,.int .u8 (.ofNat c)]=>bif Nat.blt c 256 then Qd (O3 c s 0) λn=>some (.int .i64 n)else none
 |_=>none
def aiA(s:List Nat):(e2 s).data.toList=s.map UInt8.ofNat:=by simp[e2]
def aC'(h:qz P f Extern.BytealgIndexByte.indexByte):nO P ρ f (λa j=>match abu a with|some v=>some (v,j)|none=>none):=
 h.pure λσ args v cs w d J=>by
  unfold abu at J
  split at J
  .rename_i s c
   cases b:Nat.blt c 256 with
   |false=>rw[b]at J;simp at J
   |true=>
    rw[b]at J
    simp only[eZ,adF,cx]at J
    subst J
    have k:c<256:=by simpa using b
    obtain⟨x,y,i,g,rfl⟩:=lY d
    obtain⟨ok,rfl⟩:=us i
    obtain rfl:=o0 g
    refine⟨_,Lib.run_indexByteString _ _ _,?_⟩
    rw[amW k s 0 ok,aiA]
    simp only[aT,EO,Rg,Nat.toUInt8]
    congr 2
    split
    .rename_i e;rw[e]
    .simp
  .cases J
def I1(c:Nat):List Nat->Nat->Nat
 |[],n=>n
 |b::l,n=>bif Nat.beq b c then I1 c l (n+1)else I1 c l n
def Yr{c:Nat}(a:c<256):∀(s:List Nat) (n:Nat),kY s->I1 c s n=n+Lib.countByte (s.map UInt8.ofNat) (UInt8.ofNat c)
 |[],n,_=>by simp[I1,Lib.countByte]
 |b::s,n,h=>by let⟨H,I⟩:=PK h;have e:=asK H a;simp only[I1,qu,Lib.countByte,List.count_cons];rw[e,Yr a s (n+1) I,Yr a s n I];cases Nat.beq b c<;>simp[Lib.countByte]<;>omega
def YD:List U->Option U
 |[.str s,.int .u8 (.ofNat c)]=>bif Nat.blt c 256 then wg (I1 c s 0)else none
 |_=>none
def ax'(h:qz P f Extern.BytealgCount.count):nO P ρ f (λa i=>match YD a with|some v=>some (v,i)|none=>none):=
 h.pure λσ args v cs w d J=>by
  unfold YD at J
  split at J
  .rename_i s c
   cases b:Nat.blt c 256 with
   |false=>rw[b]at J;simp at J
   |true=>
    rw[b]at J
    simp only[eZ,GU,cx]at J
    subst J
    have j:c<256:=by simpa using b
    obtain⟨x,y,g,e,rfl⟩:=lY d
    obtain⟨ok,rfl⟩:=us g
    obtain rfl:=o0 e
    refine⟨_,Lib.run_countString _ _ _,?_⟩
    rw[Yr j s 0 ok,aiA]
    simp[aT,Nat.toUInt8]
  .cases J
def acr(e:Nat):List U->ay->Option (U×ay)
 |[.int .i64 (.ofNat n)],h=>bif Nat.ble n 281474976710656&&Nat.blt h.nx eG then some (.slice h.nx 0 n 1 none,h.add (.cells e [] false true))else none
 |_,_=>none
variable{t e:TypeId}
def aFL{d:Array TypeId}(h:qz P f (Extern.BytealgMakeNoZero.makeNoZero d #[t]))(aj:P.underlying t=some (.slice e)):nO P ρ f (acr e):=
 h.fn λσ args a v o cs w ar j c J=>by
  unfold acr at J
  split at J
  .rename_i n
   cases b:(Nat.ble n 281474976710656&&Nat.blt a.nx eG)with
   |false=>rw[b]at J;simp at J
   |true=>
    rw[b]at J
    simp only[eZ,cx,iX]at J
    obtain⟨rfl,rfl⟩:=J
    simp only[dW]at b
    have H:=hZ b.1
    have I:a.nx<eG:=by simpa using b.2
    obtain⟨x,k,rfl⟩:=i' j
    obtain rfl:=o0 k
    let⟨cells,l,q,_⟩:=Lib.run_makeNoZero (P:=P) w d t e aj n H
    have g:=c.kn a.nx (aY _)
    have m:kA ρ (ea σ a.nx ⟨w.heap.size,0,cells.size⟩) ⟨w.heap.size,0,cells.size⟩ (some (.cells cells e)) (.cells e [] false true):=
     ⟨cells,(0,0),rfl,aq,aq,(λh=>by cases h),⟨[],rfl,λi hi=>by simp at hi⟩,λ_ i _ _=>aq⟩
    refine⟨_,_,l,ea σ a.nx ⟨w.heap.size,0,cells.size⟩,?_,c.add g I (rj _) (EU _) m,.add g I (aY _) (rj _)⟩
    simp[aT,ea,jP]
  .cases J
end
def PU(E:jX)(key aB:Nat)(d:S->U):kB:=λx=>bif Nat.blt (x.h.nx+2) eG then
 match d x.s with
 |.fn f first cap=>match E.call f (first++([.xF (x.h.nx+1)]++cap)) ((x.h.add .deferred).add (.loop key .ready none x.h.nx x.s aB))with
  |some (_,c)=>match c.cW (x.h.nx+1)with
   |some (.loop _ .ready none _ _ _)=>some (.iH,⟨x.s,c.db (x.h.nx+1) none,x.h.nx::x.kb⟩)
   |some (.loop _ .done (some .ret) _ _ _)=>some (.ret,⟨x.s,c.db (x.h.nx+1) none,x.h.nx::x.kb⟩)
   |some (.loop _ .done (some (.exit id)) _ _ _)=>some (.exit id,⟨x.s,c.db (x.h.nx+1) none,x.h.nx::x.kb⟩)
   |_=>none
  |none=>none
 |_=>none
 else none
def Kt:List Nat->List U->S->S
 |t::c,v::vs,s=>Kt c vs (put t v s)
 |_,_,s=>s
structure R6 where
 aB:Nat
 params:List Nat
 af7:kB
 af8:kB
def VL(T:Nat->Option R6)(b:Nat)(args:List U)(h:ay):Option (U×ay):=match h.cW b with
 |some (.loop key .ready _ _ s aB)=>match T key with
  |some c=>bif Nat.beq aB c.aB&&Nat.beq args.length c.params.length&&Nat.blt b eG then
    match c.af7 ⟨Kt c.params args s,h,[]⟩with
    |some (.iH,⟨p,H,[]⟩)=>match H.cW b with
     |some (.loop n .ready j m l o)=>match c.af8 ⟨p,H.db b (some (.loop n .busy j m l o)),[]⟩with
      |some (e,⟨_,I,[]⟩)=>match I.cW b with
       |some (.loop g _ _ d f i)=>match e with
        |.iH=>some (.bool true,I.db b (some (.loop g .ready none d f i)))
        |e=>some (.bool false,I.db b (some (.loop g .done (some e) d f i)))
       |_=>none
      |_=>none
     |_=>none
    |_=>none
   else none
  |none=>none
 |_=>none
section
variable {P:Program} {ρ:cj}
structure ahl (P:Program) (ρ:cj) (T:Nat->Option R6):Prop where
 ok:∀key b6 l,T key=some b6->ρ.ql key=some l->l.params.toList=b6.params/\(∀t∈b6.params,t<b6.aB)/\
  ns P ρ b6.aB (λb=>b.roundOf≠none) l.assign b6.af7/\ns P ρ b6.aB (λb=>b.roundOf≠none) l.body b6.af8
def aqQ{σ:b9}{aB:Nat}:∀(d:List Nat) (vs:List U) (cs:List Φ) (s:S) (a:Ω),(∀t∈d,t<aB)->b5 ρ σ vs=some cs->nW ρ σ aB s a->
  nW ρ σ aB (Kt d vs s) ((d.zip cs).foldl (λtmps (x:Nat×Φ)=>tmps.setIfInBounds x.1 x.2) a)
 |[],vs,cs,s,a,_,_,h=>by cases vs<;>simpa[Kt]using h
 |t::d,[],cs,s,a,_,e,h=>by simp[b5]at e;subst e;simpa[Kt]using h
 |t::d,v::vs,cs,s,a,ag,e,h=>by obtain⟨c,f,H,I,rfl⟩:=qK e;simp only[Kt,atC,Lc];exact aqQ d vs f _ _ (λt aj=>ag t (jw _ aj)) I (h.put (ag t (ri ..)) H)
variable {b:mz} {a:Ω} {ds:List Deferred} {k:List Item} {cs:List Frame} {w:Γ}
variable{r:Nat}
def Vi{l:Loop}(h:w.heap[r]? =some (.loop l)):(Instr.getLoop r).run P w=.ok l w:=by simp[Instr.getLoop,Vj (P:=P) h]
variable{w':Γ}
def aJL{l:Loop}(G:b.roundOf=some r)(c:(Instr.beginRound r).run P w=.ok () w'):
  step P (lone (fr b a ds (.beginRound::k)) cs w)=.next (lone (fr b a ds k) cs w'):=
 mv (by simp[stepG,stepG.exec,stepG.apply,fr,G,c,Frame.finish])
variable{v:Φ}
def aJX{c:Frame}(G:b.roundOf=some r)(d:b.kind=.normal)(e:(Instr.endRound r none).run P w=.ok v w'):
  step P (lone (fr b a ds []) (c::cs) w)=.next (lone (c.finish v) cs w'):=
 mv (by simp[stepG,stepG.exec,fr,G,d,HW,e,doReturn])
def aJZ{c:Frame}(G:b.roundOf=some r)(d:b.kind=.normal)(e:(Instr.endRound r (some .ret)).run P w=.ok v w'):
  step P (lone (fr b a ds (.code .ret::k)) (c::cs) w)=.next (lone (c.finish v) cs w'):=
 mv (by simp[stepG,stepG.exec,fr,G,d,HW,e,doReturn])
def aJY{id:Nat}{c:Frame}(G:b.roundOf=some r)(d:b.kind=.normal)(aP:exitTo id k=none)(e:(Instr.endRound r (some (.exit id))).run P w=.ok v w'):
  step P (lone (fr b a ds (.code (.exit id)::k)) (c::cs) w)=.next (lone (c.finish v) cs w'):=
 mv (by simp[stepG,stepG.exec,fr,G,d,aP,HW,e,doReturn])
def c_.loop{σ:b9}{h:ay}{w:Γ}(r:c_ ρ σ h w){b:Nat}{key:Nat}{an:LoopState}{c:Option X}{kb:Nat}{s:S}{aB:Nat}(G:h.cW b=some (.loop key an c kb s aB)):∃p a q l,σ b=some p/\p.del=0/\ρ.ql key=some l/\nW ρ σ aB s a/\σ kb=some q/\w.heap[p.ba]? =some (.loop {l with state:=an,pending:=c.map X.code,tmps:=a,defers:=q.ba})/\p.ba<w.heap.size:=by obtain⟨p,ag,au,H,a,q,l,I,e,d,f⟩:=r.lt G;exact⟨p,a,q,l,ag,H,I,e,d,f,au⟩
def ajn{σ:b9}{ds:List Deferred}(h:wR σ []=some ds):ds=[]:=by simp[wR]at h;exact h
def aMq{T:Nat->Option R6}(dm:ahl P ρ T):ahS P ρ (VL T):=by
 intro σ b args h v Z cs w p ar jS bV ag J;unfold VL at J;split at J
 .rename_i key wj kb s aB G;split at J
  .rename_i j cK;cases L:(Nat.beq aB j.aB&&Nat.beq args j.params&&Nat.blt b eG)with
   |false=>rw[L]at J;simp at J
   |true=>
    rw[L]at J;simp only[eZ]at J;simp only[dW]at L;obtain⟨⟨ak,W⟩,K⟩:=L;obtain rfl:=gK ak;have W:=gK W;have K:b<eG:=by simpa using K
    split at J
    .rename_i bH H ai;split at J
     .rename_i ax z YR P5 az Y;split at J
      .rename_i e g6 I aj;split at J
       .rename_i U Vs aA R S V bu;obtain⟨b1,a0,q,l,ez,aC,ad,bt,aE,xb,au⟩:=bV.loop G;obtain rfl:p=b1:=gm (ag.symm.trans ez);obtain⟨Q,GZ,ao,aw⟩:=dm.ok key j l cK ad;have df:=nu jS;have D6:l.params.size=j.params.length:=by rw[<-Q];simp
        refine⟨l.fn,(l.params.zip cs.toArray).foldl (λtmps (x:Nat×Φ)=>tmps.setIfInBounds x.1 x.2) a0,l.assign,l.body,?_,?_⟩
        .have:¬(cs.toArray.size≠l.params.size):=bw;simp only[Instr.yield,e7,Vi xb,eY];rw[bo this];simp only[fI,eY]
        .intro c g;have lE:(l.params.zip cs.toArray).foldl (λtmps (x:Nat×Φ)=>tmps.setIfInBounds x.1 x.2) a0=(j.params.zip cs).foldl (λtmps (x:Nat×Φ)=>tmps.setIfInBounds x.1 x.2) a0:=by rw[<-Q,<-as_];simp[Array.toList_zip]
         have mp:Frame.round p.ba l.fn ((l.params.zip cs.toArray).foldl (λtmps (x:Nat×Φ)=>tmps.setIfInBounds x.1 x.2) a0) l.assign l.body .normal=
           fr ⟨l.fn,.normal,some p.ba⟩ ((j.params.zip cs).foldl (λtmps (x:Nat×Φ)=>tmps.setIfInBounds x.1 x.2) a0) [] [.code l.assign,.beginRound,.code l.body]:=by
          rw[lE];rfl
         rw[mp];obtain⟨k1,bZ,n2,F,D,M,b7⟩:=ao σ _ _ _ ai ⟨l.fn,.normal,some p.ba⟩ aq [.beginRound,.code l.body] (c::g) _ [] w ⟨aqQ j.params args cs s a0 GZ jS bt,bV,rfl,ar⟩;obtain rfl:=ajn D.d;obtain⟨dB,t,C,n,hV,af,oH,te,h5,aa,BA⟩:=D.h.loop Y;obtain rfl:p=dB:=gm ((M.ext _ _ ag).symm.trans hV);obtain⟨dP,dq⟩:=D.h.put (x:=.loop ax .busy z YR P5 az) (o:=.loop {n with state:=.busy,pending:=z.map X.code,tmps:=t,defers:=C.ba}) Y hV K BA ⟨af,t,C,n,oH,te,h5,rfl⟩;have bm:(Instr.beginRound p.ba).run P F=.ok () (gZ F p.ba (.loop {n with state:=.busy,pending:=z.map X.code,tmps:=t,defers:=C.ba})):=by simp only[Instr.beginRound,e7,Vi aa,eY,KB (P:=P) aa (by intro c e f;simp)];rfl
         obtain⟨kw,cz,SW,i,N,bb,cw⟩:=aw k1 _ _ _ aj ⟨l.fn,.normal,some p.ba⟩ aq [] (c::g) bZ [] _ ⟨D.s,dP,rfl,D.g⟩;obtain rfl:=ajn N.d;obtain⟨dF,y,E,A,ij,ah,tq,Z8,n9,ab,nB⟩:=N.h.loop bu;obtain rfl:p=dF:=gm ((bb.ext _ _ (M.ext _ _ ag)).symm.trans ij);have bH:Steps P (lone (fr ⟨l.fn,.normal,some p.ba⟩ ((j.params.zip cs).foldl (λtmps (x:Nat×Φ)=>tmps.setIfInBounds x.1 x.2) a0) [] [.code l.assign,.beginRound,.code l.body]) (c::g) w)
           (lone (fr ⟨l.fn,.normal,some p.ba⟩ bZ [] [.code l.body]) (c::g) (gZ F p.ba (.loop {n with state:=.busy,pending:=z.map X.code,tmps:=t,defers:=C.ba}))):=tT b7 (.one (aJL (l:=n) rfl bm))
         have O:∀(an:LoopState) (d:Option X) (B:Bool),(Instr.endRound p.ba (d.map X.code)).run P i=.ok (.bool B) (gZ i p.ba (.loop {A with state:=an,pending:=d.map X.code,tmps:=y,defers:=E.ba}))->
           v=.bool B->Z=I.db b (some (.loop U an d R S V))->
           step P (match e with|.iH=>lone (fr ⟨l.fn,.normal,some p.ba⟩ cz [] []) (c::g) i|.ret=>lone (fr ⟨l.fn,.normal,some p.ba⟩ cz [] []) (c::g) i|.exit _=>lone (fr ⟨l.fn,.normal,some p.ba⟩ cz [] []) (c::g) i)=step P (lone (fr ⟨l.fn,.normal,some p.ba⟩ cz [] []) (c::g) i)->
           ∀m,Steps P (lone (fr ⟨l.fn,.normal,some p.ba⟩ bZ [] [.code l.body]) (c::g) (gZ F p.ba (.loop {n with state:=.busy,pending:=z.map X.code,tmps:=t,defers:=C.ba}))) m->
            step P m=.next (lone (c.finish (.bool B)) g (gZ i p.ba (.loop {A with state:=an,pending:=d.map X.code,tmps:=y,defers:=E.ba})))->
           ∃u w',ro ρ σ h w v Z u w'/\Steps P (lone (fr ⟨l.fn,.normal,some p.ba⟩ ((j.params.zip cs).foldl (λtmps (x:Nat×Φ)=>tmps.setIfInBounds x.1 x.2) a0) [] [.code l.assign,.beginRound,.code l.body]) (c::g) w) (lone (c.finish u) g w'):=λan d B ae ay al _ m av fb=>by
          subst ay;subst al;obtain⟨dz,dJ⟩:=N.h.put (x:=.loop U an d R S V) (o:=.loop {A with state:=an,pending:=d.map X.code,tmps:=y,defers:=E.ba}) bu ij K nB ⟨ah,y,E,A,tq,Z8,n9,rfl⟩;exact⟨.bool B,_,⟨kw,rfl,dz,M.trans (dq.trans (bb.trans dJ))⟩,tT bH (tT av (.one fb))⟩
         have r:∀(d:Option X),(Instr.endRound p.ba (d.map X.code)).run P i=.ok (.bool d.isNone) (gZ i p.ba (.loop {A with state:=if d.isNone then .ready else .done,pending:=d.map X.code,tmps:=y,defers:=E.ba})):=λd=>by simp only[Instr.endRound,e7,Vi ab,eY,KB (P:=P) ab (by intro c e f;simp),fI];cases d<;>rfl
         cases e with
         |iH=>simp only[cx,iX]at J;exact O .ready none true (r none) J.1.symm J.2.symm rfl _ cw (aJX rfl rfl (r none))
         |exit id=>simp only[cx,iX]at J;obtain⟨dx,ii,cw⟩:=cw;exact O .done (some (.exit id)) false (r (some (.exit id))) J.1.symm J.2.symm rfl _ cw (aJY rfl rfl (by rw[ii];rfl) (r (some (.exit id))))
         |ret=>simp only[cx,iX]at J;obtain⟨dx,cw⟩:=cw;exact O .done (some .ret) false (r (some .ret)) J.1.symm J.2.symm rfl _ cw (aJZ rfl rfl (r (some .ret)))
       .cases J
      .cases J
     .cases J
    .cases J
  .cases J
 .cases J
def GQ(r:Nat):Deferred:={target:=.collected r,args:=#[]}
def aIA{f:FuncId}{params:Array Tmp}{assign body:Code}: (Instr.enterLoop f a params assign body none).run P w=.ok (w.heap.size+1,[GQ w]) {w with heap:=(w.heap.push (.deferred (some []))).push (.loop {state:=.ready,pending:=none,fn:=f,tmps:=a,params,assign,body,defers:=w.heap.size})}:=by simp only[Instr.enterLoop,e7,fI,eY,run_newObj,GQ,World.alloc];simp
def KW(f:Operand)(l:Nat):Call:={callee:=.value f,args:=#[.const (.func (.yield l) #[] #[])],argTypes:=#[]}
variable{l:Nat}
def aJT{f:Operand}{params:Array Tmp}{assign body:Code}{c:Γ}{mk:List Deferred}{g:FuncId}{args:Ω}(G:b.roundOf=none) (aP:(Instr.enterLoop b.fn a params assign body none).run P w=.ok (l,mk) c) (e:(do let d <-resolve (eC a) (KW f l) 0;invoke d.target d.args:Sem Next).run P c=.ok (.enter g args) c): step P (lone (fr b a ds (.code (.rangeFunc f params assign body)::k)) cs w)=.next (lone (Frame.enter P g args .normal) (fr b a (mk++ds) (.inRangeFunc l::k)::cs) c):=by have h:=S4 b a (mk++ds) (.inRangeFunc l::k);simp only[fr,G]at h;simp only[KW]at e;exact mv (by simp only[fr,G];simp[stepG,stepG.exec,stepG.apply,HW,aP,h,e])
def aJU{f:Operand}{params:Array Tmp}{assign body:Code}{e w3:Γ}{mk:List Deferred}(G:b.roundOf=none) (aP:(Instr.enterLoop b.fn a params assign body none).run P w=.ok (l,mk) e) (c:(do let d <-resolve (eC a) (KW f l) 0;invoke d.target d.args:Sem Next).run P e=.ok (.value v) w3): step P (lone (fr b a ds (.code (.rangeFunc f params assign body)::k)) cs w)=.next (lone (fr b a (mk++ds) (.endRangeFunc l::k)) cs w3):=by have g:=S4 b a (mk++ds) (.inRangeFunc l::k);simp only[fr,G]at g;simp only[KW]at c;exact mv (by simp only[fr,G];simp[stepG,stepG.exec,stepG.apply,HW,aP,g,c,Frame.finish])
def aJM{c:Option Code}(d:(Instr.endLoop l).run P w=.ok c w'):
  step P (lone (fr b a ds (.endRangeFunc l::k)) cs w)=.next (lone (fr b a ds ((c.map Item.code).toList++k)) cs w'):=
 mv (by simp[stepG,stepG.exec,fr,HW,d])
def azA(v:Φ)(l:Nat):(fr b a ds (.inRangeFunc l::k)).finish v=fr b a ds (.endRangeFunc l::k):=rfl
def aJa{E:jX}(cN:vk P ρ E){key aB:Nat}{W:S->U}{r:Operand}{params:Array Tmp}{assign body:Code}{B:mz->Prop}{g:Loop}(bg:∀b,B b->b.roundOf=none/\b.fn=g.fn) (aa:ρ.ql key=some g)(ak:g.params=params)(has:g.assign=assign)(la:g.body=body)(bF:R_ P ρ aB r W):ns P ρ aB B (.rangeFunc r params assign body) (PU E key aB W):=by
 intro σ x e A h b G k cs a ds w i;obtain⟨N,bu⟩:=bg b G;unfold PU at h;cases au:Nat.blt (x.h.nx+2) eG with
 |false=>rw[au]at h;simp at h
 |true=>
  rw[au]at h;simp only[eZ]at h;have au:x.h.nx+2<eG:=by simpa using au
  split at h
  .rename_i f first cap JH
   split at h
   .rename_i fU J ad;have o:=bF σ x.s a i.g i.s;rw[JH]at o;have Y:=i.h.kn x.h.nx (aY _);have y0:=i.h.add (nx:=x.h.nx+1) (tot:=0) (d:=w.drawn) (obj:=.deferred (some [])) (x:=.deferred) Y z (rj _) (EU _) ⟨rfl,rfl⟩;have sP:jY σ x.h w _ (x.h.add .deferred) {w with heap:=w.heap.push (.deferred (some [])),drawn:=w.drawn}:=jY.add (tot:=0) (obj:=.deferred (some [])) (x:=.deferred) Y z (aY _) (rj _);have K:=y0.kn (x.h.nx+1) (aY _);have JK:g={state:=g.state,pending:=g.pending,fn:=b.fn,tmps:=g.tmps,params,assign,body,defers:=g.defers}:=by rw[bu,<-ak,<-has,<-la]
    have Xt:kA ρ (ea (ea σ x.h.nx ⟨w.heap.size,0,0⟩) (x.h.nx+1) ⟨w.heap.size+1,0,0⟩) ⟨w.heap.size+1,0,0⟩
      (some (.loop {state:=.ready,pending:=none,fn:=b.fn,tmps:=a,params,assign,body,defers:=w.heap.size})) (.loop key .ready none x.h.nx x.s aB):=by
     refine⟨rfl,a,⟨w.heap.size,0,0⟩,g,aa,(i.s.ext sP.ext).ext (.db K),by simp[ea],?_⟩;rw[JK];rfl
    have LI:=y0.add (nx:=x.h.nx+1+1) (tot:=0) (d:=w.drawn) (x:=.loop key .ready none x.h.nx x.s aB) K z (rj _) (EU _) (obj:=.loop {state:=.ready,pending:=none,fn:=b.fn,tmps:=a,params,assign,body,defers:=w.heap.size}) (by simpa using Xt);have am:=jY.add (h:=x.h.add .deferred) (w:={w with heap:=w.heap.push (.deferred (some [])),drawn:=w.drawn}) (nx:=x.h.nx+1+1) (tot:=0) (d:=w.drawn) (x:=.loop key .ready none x.h.nx x.s aB) K z (aY _) (rj _) (obj:=.loop {state:=.ready,pending:=none,fn:=b.fn,tmps:=a,params,assign,body,defers:=w.heap.size});have O:=sP.trans am;simp only[aT]at o;split at o
    .rename_i M Z al lC;have o:=gm o;have I:mV σ (ea (ea σ x.h.nx ⟨w.heap.size,0,0⟩) (x.h.nx+1) ⟨(w.heap.push (.deferred (some []))).size,0,0⟩):=O.ext;have jS:b5 ρ (ea (ea σ x.h.nx ⟨w.heap.size,0,0⟩) (x.h.nx+1) ⟨(w.heap.push (.deferred (some []))).size,0,0⟩) (first++([.xF (x.h.nx+1)]++cap))=some (M++([.func (.yield (w.heap.size+1)) #[] #[]]++Z)):=
      zp (wO I al) (zp (by simp[b5,aT,ea]) (wO I lC))
     have ai:kM P (ea (ea σ x.h.nx ⟨w.heap.size,0,0⟩) (x.h.nx+1) ⟨(w.heap.push (.deferred (some []))).size,0,0⟩):=i.g.ext I;have V:∀w',(do let d <-resolve (eC a) (KW r (w.heap.size+1)) 0;invoke d.target d.args:Sem Next).run P w'=(callFunc f (M++([Value.func (.yield (w.heap.size+1)) #[] #[]]++Z)).toArray).run P w':=λw'=>by simp only[KW,resolve,<-o,Deferred.ofValue,e7,fI,eY,invoke];congr 2;apply xG;simp[eC]
     have R:=aIA (P:=P) (a:=a) (w:=w) (f:=b.fn) (params:=params) (assign:=assign) (body:=body);have l0:∀(c:Φ) (w3:Γ),ro ρ (ea (ea σ x.h.nx ⟨w.heap.size,0,0⟩) (x.h.nx+1) ⟨(w.heap.push (.deferred (some []))).size,0,0⟩) ((x.h.add .deferred).add (.loop key .ready none x.h.nx x.s aB)) {w with heap:=(w.heap.push (.deferred (some []))).push (.loop {state:=.ready,pending:=none,fn:=b.fn,tmps:=a,params,assign,body,defers:=w.heap.size})} fU J c w3->
       Steps P (lone (fr b a ds (.code (.rangeFunc r params assign body)::k)) cs w) (lone (fr b a (GQ w::ds) (.endRangeFunc (w.heap.size+1)::k)) cs w3)->
       ∃T a' L w',Dl P ρ aB T A a' L w'/\jY σ x.h w T A.h w'/\IC P (lone (fr b a ds (.code (.rangeFunc r params assign body)::k)) cs w) b a' L k cs w' e:=λc w3 ⟨n,ao,Q,H⟩ yt=>by
      have D5:n (x.h.nx+1)=some ⟨w.heap.size+1,0,0⟩:=by have:=H.ext (x.h.nx+1) ⟨(w.heap.push (.deferred (some []))).size,0,0⟩ (by simp[ea]);simpa using this
      have aj:n x.h.nx=some ⟨w.heap.size,0,0⟩:=H.ext _ _ (by simp[ea]);have all:=O.trans H;have done:∀(gc:Nat) (an:LoopState) (t:Option X) (kb:Nat) (s:S) (l:Nat),J.cW (x.h.nx+1)=some (.loop gc an t kb s l)->an≠ .busy->A=⟨x.s,J.db (x.h.nx+1) none,x.h.nx::x.kb⟩->
        ∃j,Dl P ρ aB n A a (GQ w::ds) j/\jY σ x.h w n A.h j/\Steps P (lone (fr b a ds (.code (.rangeFunc r params assign body)::k)) cs w) (lone (fr b a (GQ w::ds) (((t.map X.code).map Item.code).toList++k)) cs j):=λgc an t kb s l m D oJ=>by
       subst oJ;obtain⟨p,a3,q,iS,ag,ar,n6,ap,aE,xb,av⟩:=Q.loop m;obtain rfl:(⟨w.heap.size+1,0,0⟩:nT)=p:=gm (D5.symm.trans ag);obtain⟨a_,bb⟩:=Q.akn m ag z (.loop {iS with state:=.exhausted,pending:=t.map X.code,tmps:=a3,defers:=q.ba});have ab:(Instr.endLoop (w.heap.size+1)).run P w3=.ok (t.map X.code) (gZ w3 (w.heap.size+1) (.loop {iS with state:=.exhausted,pending:=t.map X.code,tmps:=a3,defers:=q.ba})):=by
        have bO:(an==.busy)=false:=by simpa using D
        simp only[Instr.endLoop,e7,Vi xb,eY,bO,re,pZ,fI,KB (P:=P) xb (by intro c e f;simp)]
       refine⟨_,⟨i.s.ext all.ext,a_,?_,i.g.ext all.ext⟩,all.trans bb,tT yt (.one (aJM ab))⟩;simp only[wR,aj,SO all.ext i.d,GQ]
      split at h
      .rename_i gc kb s l m;simp only[cx,iX]at h;obtain⟨rfl,rfl⟩:=h;obtain⟨j,u,y,C⟩:=done gc .ready none kb s l m aq rfl;exact⟨n,a,_,j,u,y,show Steps _ _ _ by simpa using C⟩
      .rename_i gc kb s l m;simp only[cx,iX]at h;obtain⟨rfl,rfl⟩:=h;obtain⟨j,u,y,C⟩:=done gc .done (some .ret) kb s l m aq rfl;exact⟨n,a,_,j,u,y,k,by simpa[X.code]using C⟩
      .rename_i gc id kb s l m;simp only[cx,iX]at h;obtain⟨rfl,rfl⟩:=h;obtain⟨j,u,y,C⟩:=done gc .done (some (.exit id)) kb s l m aq rfl;exact⟨n,a,_,j,u,y,k,rfl,by simpa[X.code]using C⟩
      .cases h
     rcases cN.call f _ _ _ _ _ _ _ ai jS LI ad with⟨c,w3,F,aL⟩|⟨F,aL⟩
     .refine l0 c w3 aL (.one ?_);exact aJU N R (by rw[V];exact F)
     .obtain⟨c,w3,af,D⟩:=aL (fr b a (GQ w::ds) (.inRangeFunc (w.heap.size+1)::k)) cs;rw[azA]at D;exact l0 c w3 af (.head (aJT N R (by rw[V];exact F)) D)
    .cases o
   .cases h
  .cases h
end
def Zj(agg:Bool)(off n:Nat):List U->Option U
 |[.agg l]=>bif agg then(bif Nat.ble (off+n) l.length then some (.agg ((l.drop off).take n))else none)else l[off]?
 |_=>none
def azv{P:Program}{ρ:cj}{o:Oper}{t:TypeId}{x:Operand}{i:Nat}{q:Array Field}{f:Field}{d:TypeDesc}{b:TypeInfo}(h:o.op=.field t x i)(hu:P.underlying t=some (.struct q))(n:q[i]? =some f)(hd:P.underlying f.type=some d)(hi:P.info? f.type=some b):m1 P ρ o (Zj (vz d) f.offset b.size):=by
 intro σ s a w v ar u J;unfold Zj at J;split at J
 .rename_i l;obtain⟨c,k,e⟩:=i' u;simp[gf,h,Op.operands]at e;simp only[aT,iW]at k;obtain⟨cs,g,rfl⟩:=k;have j:=Vk (w:=w) hd;have A:=qo (P:=P) (w:=w) hi;have m:=h_ (P:=P) (w:=w) hu;have D:=nu g;generalize vz d=r at J j;cases r with
  |true=>
   simp only[eZ]at J;cases p:Nat.ble (f.offset+b.size) l with
   |false=>simp[p]at J
   |true=>
    rw[p]at J;simp only[eZ,cx]at J;subst J;refine⟨.agg ((cs.drop f.offset).take b.size).toArray,by simp[aT,ur b.size (vF f.offset g)],?_⟩;have aP:(cs.toArray.extract f.offset (f.offset+b.size))=((cs.drop f.offset).take b.size).toArray:=by apply xG;simp[List.extract_eq_drop_take]
    simp only[execOp,h,e,Instr.field,part,asAgg,e7,m,eY,n,fI,j,A,oR,aP]
  |false=>
   simp only[jL]at J;obtain⟨y,z,C⟩:=zq g J;refine⟨y,C,?_⟩;have B:cs.toArray[f.offset]? =some y:=by simpa using z
   simp only[execOp,h,e,Instr.field,part,asAgg,e7,m,eY,n,fI,j,re,pZ,B]
 .cases J
def ado(n esz:Nat)(c a:Bool):List U->Option U
 |.ji b off::r=>match qI c a n n r with
  |some (l,h)=>bif Nat.ble h n&&Nat.blt l n then some (.slice b (off+l*esz) (h-l) esz (some (n-l)))else none
  |none=>none
 |_=>none
def aJi{P:Program}{ρ:cj}{o:Oper}{t e:TypeId}{n:Nat}{x:Operand}{eo hi:Option Operand}(h:o.op=.slice t x eo hi none){d:TypeInfo}(hu:P.underlying t=some (.array n e))(u:P.info? e=some d):m1 P ρ o (ado n d.size eo.isSome hi.isSome):=by
 intro σ s a w v ar f J;have y:gf o a=eC a x::((eo.toArray++hi.toArray).toList.map (eC a)):=by simp[gf,h,Op.operands]
 rw[y]at f;unfold ado at J;split at J
 .rename_i b off r;split at J
  .rename_i l I G;cases c:(Nat.ble I n&&Nat.blt l n)with
   |false=>rw[c]at J;simp at J
   |true=>
    rw[c]at J;simp only[eZ,cx]at J;subst J;simp only[dW]at c;have A:l<n:=by simpa using c.2
    obtain⟨c1,B,j,g,aP⟩:=qK f;simp only[qs]at aP;obtain⟨ak,k⟩:=aP;obtain⟨p,ag,i⟩:=wP j;rw[<-k]at g;obtain⟨C,D,q⟩:=Sy (P:=P) (w:=w) (isSlice:=false) (len:=n) (cap:=n) G (aY _) g;refine⟨.slice (some ⟨p.ba,p.del+(off+l*d.size),none⟩) (I-l) (n-l),by simp only[aT,ag,ov,jP],?_⟩;have m:¬n=l:=z;rw[i]at ak;simp only[execOp,h,ak,afQ,Instr.sliceAt,Instr.sureAddr,e7,h_ hu,eY,q,qo u,fI,zg,bo m,k4]
  .cases J
 .cases J
def Nh(P:Program)(op:BinOp)(t:TypeId):Option pv:=match P.underlying t with
 |some (.int _)=>some (.pure (uo op))
 |some .string=>some (.pure (uo op))
 |some (.pointer e)=>match P.info? e with
  |some a=>if a.size≠0 then some (.pure (Y8 op))else none
  |none=>none
 |some (.slice _)=>some (.pure (Y9 op))
 |some (.func _ _ _)=>some (.pure (Y5 op))
 |some (.struct b)=>if P.stoodInHeld t=false/\P.eqGuardType P.depth t=false then match Jl P b.toList with
   |some c=>some (.pure (Y_ op c))
   |none=>none
  else none
 |_=>none
def YN(P:Program)(s d:TypeId):Option pv:=match P.underlying s,P.underlying d with
 |some (.slice e),some .string=>match P.underlying e with
  |some (.int .u8)=>some (.sB Ya)
  |_=>none
 |some (.int _),some (.int k)=>some (.pure (Yz k))
 |some (.pointer t),some .unsafePointer=>match P.info? t with
  |some b=>if b.size≠0 then some (.sB ad4)else none
  |none=>none
 |some .unsafePointer,some (.pointer u)=>match P.info? u with
  |some a=>if a.size≠0 then some (.sB (acA u a.size))else none
  |none=>none
 |_,_=>none
def YQ(P:Program)(t:TypeId)(eo hi:Bool):Option pv:=match P.underlying t with
 |some .string=>some (.pure (adr eo hi))
 |some (.slice e)=>match P.info? e with
  |some a=>some (.sB (adt a.size eo hi))
  |none=>none
 |some (.array n e)=>match P.info? e with
  |some a=>some (.pure (ado n a.size eo hi))
  |none=>none
 |_=>none
def Nj(P:Program)(t:TypeId):Option pv:=match P.underlying t with
 |some .string=>some (.pure Pg)
 |some (.slice _)=>some (.pure Pf)
 |_=>none
def YK(P:Program)(s b:TypeId):Option pv:=match P.underlying s,P.underlying b with
 |some (.slice _),some (.int _)=>none
 |some (.slice e),some _=>match P.info? e with
  |some a=>match a.zero with
   |some ai=>if ai.cells.size=a.size/\a.size≠0 then some (.tl (XT e a.size a.bytes))else none
   |none=>none
  |none=>none
 |_,_=>none
def Ni(P:Program)(b:Builtin)(a:Array TypeId):Option pv:=match b with
 |.len=>match a[0]? with|some t=>Nj P t|none=>none
 |.cap=>match a[0]? with
  |some t=>match P.underlying t with
   |some (.slice e)=>match P.info? e with|some c=>some (.sB (Yj c.size))|none=>none
   |_=>none
  |none=>none
 |.append=>match a[0]?,a[1]? with|some s,some x=>YK P s x|_,_=>none
 |.copy=>match a[0]? with
  |some s=>match P.underlying s with
   |some (.slice e)=>match P.info? e with|some c=>some (.tl (YB c.size))|none=>none
   |_=>none
  |none=>none
 |.max=>some (.pure ab2)
 |.unsafeSliceData=>some (.sB adp)
 |.unsafeString=>match a[0]? with
  |some d=>match P.underlying d with
   |some (.pointer e)=>match P.info? e with|some c=>if c.size=1 then some (.tl (aeb e))else none|none=>none
   |_=>none
  |none=>none
 |_=>none
def VM(P:Program)(t:TypeId):Option (List U):=match P.info? t with
 |some i=>match i.zero with
  |some ai=>uR ai.cells.toList
  |none=>none
 |none=>none
def IS{a:Type}:List (Option a)->Option (List a)
 |[]=>some []
 |some x::l=>match IS l with|some r=>some (x::r)|none=>none
 |none::_=>none
def aie{a:Type}:∀{l:List (Option a)} {r:List a},IS l=some r->l=r.map some
 |[],r,h=>by simp[IS]at h;subst h;rfl
 |none::_,_,h=>by simp[IS]at h
 |some x::l,r,h=>by simp only[IS]at h;split at h;{rename_i q b;cases h;simp[aie b]};{cases h}
def YL(P:Program)(t:TypeId)(parts:List (Nat×Operand)):Option pv:=match VM P t with
 |some zs=>match P.underlying t with
  |some (.struct c)=>match Ko P c.toList with
   |some a=>match IS (parts.map λp=>a[p.1]?)with
    |some b=>some (.pure (X' zs b))
    |none=>none
   |none=>none
  |_=>none
 |none=>none
def YM(P:Program)(t:TypeId)(len:Nat)(parts:List (Nat×Operand)):Option pv:=match P.underlying t with
 |some (.slice e)=>match P.info? e with
  |some a=>match a.zero with
   |some ai=>if len*a.size<=2^24/\a.size≠0 then match uR ((Array.range (len*a.size)).map ((if len*a.size=0 then #[]else ai.cells)[· %(if len*a.size=0 then #[]else ai.cells).size]!)).toList with
     |some b=>some (.alloc (X_ e b (parts.map λp=>(p.1*a.size,a.size))) (ads len a.size))
     |none=>none
    else none
   |none=>none
  |none=>none
 |_=>none
def YP(P:Program)(t:TypeId):Option pv:=match P.underlying t with
 |some (.slice e)=>match P.info? e with
  |some a=>match a.zero with
   |some ai=>if ai.cells.size=a.size/\a.size≠0 then match uR ai.cells.toList with
     |some zs=>some (.alloc (abZ e zs a.bytes) (adq a.size))
     |none=>none
    else none
   |none=>none
  |none=>none
 |_=>none
def Up(P:Program)(k:TypeId):Option Nat:=match P.underlying k with
 |some kd=>q9 kd
 |none=>none
def YO(P:Program)(t:TypeId)(ok:Bool):Option pv:=match P.underlying t with
 |some (.map k e)=>match Up P k,P.info? e with
  |some c,some b=>match b.zero with
   |some ai=>match ofValue ai with
    |some a=>some (.sB (abU c a ok))
    |none=>none
   |none=>none
  |_,_=>none
 |_=>none
def SQ(P:Program)(t:TypeId):Option pv:=match P.underlying t with
 |some (.map k _)=>match Up P k with
  |some a=>some (.tl (ab0 a))
  |none=>none
 |_=>none
def pB(P:Program)(E:jX)(op:Op):Option pv:=match op with
 |.move _=>some (.pure BT)
 |.assign _=>some (.pure BT)
 |.pick _ _ _=>some (.pure PP)
 |.extract _ i=>some (.pure (Zh i))
 |.makeFunc (.func f) first _=>some (.pure (anU f first.size))
 |.makeInterface t _=>match P.underlying t with
  |some (.interface _)=>none
  |some _=>some (.pure (abr t))
  |none=>none
 |.binOp b t _ _ _=>Nh P b t
 |.unOp u _ _=>some (.pure (aea u))
 |.load t _=>match P.underlying t,P.info? t with
  |some d,some i=>some (.sB (Ei (vz d) i.size))
  |_,_=>none
 |.store t _ _=>match P.info? t with
  |some i=>some (.tl (adD i.size))
  |none=>none
 |.fieldAddr t _ i=>match P.underlying t with
  |some (.struct g)=>match g[i]? with
   |some f=>match P.info? f.type with
    |some h=>if h.size≠0 then some (.pure (ND f.offset))else none
    |none=>none
   |none=>none
  |_=>none
 |.field t _ i=>match P.underlying t with
  |some (.struct g)=>match g[i]? with
   |some f=>match P.underlying f.type,P.info? f.type with
    |some d,some h=>some (.pure (Zj (vz d) f.offset h.size))
    |_,_=>none
   |none=>none
  |_=>none
 |.indexAddr t _ _=>match P.underlying t with
  |some (.slice e)=>match P.info? e with|some a=>some (.pure (J1 a.size))|none=>none
  |some (.array len e)=>match P.info? e with|some a=>some (.pure (abt len a.size))|none=>none
  |_=>none
 |.nilCheck _=>some (.pure Pw)
 |.alloc t=>match VM P t with|some zs=>some (.alloc (XR t zs) Kq)|none=>none
 |.box t _=>some (.alloc (X8 t) Kq)
 |.build t parts=>YL P t parts.toList
 |.buildSlice t len parts=>YM P t len parts.toList
 |.makeSlice t _ _=>YP P t
 |.index t _ _=>match P.underlying t with|some .string=>some (.pure J2)|_=>none
 |.convert s d _=>YN P s d
 |.slice t _ eo hi none=>YQ P t eo.isSome hi.isSome
 |.lookup t _ _ ok=>YO P t ok
 |.makeMap _ none=>some (.alloc abY ab1)
 |.mapUpdate t _ _ _=>SQ P t
 |.insert t _ _ _=>SQ P t
 |.call c=>match c.callee with
  |.value _=>some (.tl (M2 E))
  |.builtin b=>Ni P b c.argTypes
  |_=>none
 |_=>none
end Go.cE
namespace Go.cE
section
variable {P:Program} {ρ:cj} {o:Oper} {f:pv}
variable{t:TypeId}{x y:Operand}
def ays{op:BinOp}{g:TypeId}(a:o.op=.binOp op t x y g)(h:Nh P op t=some f):sY P ρ o f:=by unfold Nh at h;split at h;cases h;exact ais a;cases h;exact ais a;rename_i e hu;split at h;rename_i i aP;split at h;rename_i c;cases h;exact ay7 a hu aP c;cases h;cases h;rename_i hu;cases h;exact ay8 a hu;rename_i hu;cases h;exact ay5 a hu;rename_i j hu;split at h;rename_i b;split at h;rename_i k d;cases h;exact ay_ a hu b.1 b.2 d;cases h;cases h;cases h
variable{s:TypeId}
def ayw{d:TypeId}(b:o.op=.convert s d x)(h:YN P s d=some f):sY P ρ o f:=by unfold YN at h;split at h;rename_i e a hd;split at h;rename_i aP;cases h;exact axj b a aP hd;cases h;rename_i a hd;cases h;exact ax3 b a hd;rename_i t a hd;split at h;rename_i g aj;split at h;rename_i c;cases h;exact aKW b a hd aj c;cases h;cases h;rename_i u a hd;split at h;rename_i i hu;split at h;rename_i c;cases h;exact aFZ b a hd hu c;cases h;cases h;cases h
def ayI{t:TypeId}{x:Operand}{eo hi:Option Operand}(a:o.op=.slice t x eo hi none)(h:YQ P t eo.isSome hi.isSome=some f):sY P ρ o f:=by
 unfold YQ at h;split at h
 .rename_i hu;cases h;exact aJk a hu
 .rename_i e hu;split at h
  .rename_i b aP;cases h;exact aJl a hu aP
  .cases h
 .rename_i n e hu;split at h
  .rename_i b aP;cases h;exact aJi a hu aP
  .cases h
 .cases h
def ayB{c:Call}(b:o.op=.call c)(a:c.callee=.builtin .len)(aj:c.argTypes[0]? =some t)(h:Nj P t=some f):sY P ρ o f:=by unfold Nj at h;split at h;rename_i hu;cases h;exact aEc b a aj hu;rename_i hu;cases h;exact aEa b a aj hu;cases h
def ayr{c:Call}{b:TypeId}(j:o.op=.call c)(d:c.callee=.builtin .append)(af:c.argTypes[0]? =some s)(H:c.argTypes[1]? =some b)(h:YK P s b=some f):sY P ρ o f:=by unfold YK at h;split at h;cases h;rename_i e n g hu l;split at h;rename_i m aP;split at h;rename_i ai i;split at h;rename_i a;cases h;exact awP j d af H hu aP i a.1 a.2 l (λk e=>g k e);cases h;cases h;cases h;cases h
def ayv{c:Call}{b:Builtin}(d:o.op=.call c)(a:c.callee=.builtin b)(h:Ni P b c.argTypes=some f):sY P ρ o f:=by unfold Ni at h;split at h;split at h;rename_i t aj;exact ayB d a aj h;cases h;split at h;rename_i t aj;split at h;rename_i e hu;split at h;rename_i g aP;cases h;exact axs d a aj hu;cases h;cases h;cases h;split at h;rename_i s x af H;exact ayr d a af H h;cases h;split at h;rename_i s i;split at h;rename_i e hu;split at h;rename_i g aP;cases h;exact ax_ d a i hu aP;cases h;cases h;cases h;cases h;exact aEE d a;cases h;exact aJj d a;split at h;rename_i k j;split at h;rename_i e hu;split at h;rename_i g aP;split at h;rename_i H;cases h;exact aLU d a j hu aP H;cases h;cases h;cases h;cases h;cases h
def as5{zs:List U}(h:VM P t=some zs):∃i ai,P.info? t=some i/\i.zero=some ai/\uR ai.cells.toList=some zs:=by unfold VM at h;split at h;rename_i i hi;split at h;rename_i ai a;exact⟨i,ai,hi,a,h⟩;cases h;cases h
def ayu{parts:Array (Nat×Operand)}(d:o.op=.build t parts)(h:YL P t parts.toList=some f):sY P ρ o f:=by unfold YL at h;split at h;rename_i zs a;let⟨i,ai,hi,c,a⟩:=as5 a;split at h;rename_i j hu;split at h;rename_i e b;split at h;rename_i g ag;cases h;exact axb d hi c a hu b (aie ag);cases h;cases h;cases h;cases h
def ayt{len:Nat}{parts:Array (Nat×Operand)}(d:o.op=.buildSlice t len parts)(h:YM P t len parts.toList=some f):sY P ρ o f:=by unfold YM at h;split at h;rename_i e hu;split at h;rename_i i aP;split at h;rename_i ai c;split at h;rename_i a;split at h;rename_i g b;cases h;exact axa d hu aP c a.1 a.2 b rfl;cases h;cases h;cases h;cases h;cases h
def ayD(c:o.op=.makeSlice t x y)(h:YP P t=some f):sY P ρ o f:=by unfold YP at h;split at h;rename_i e hu;split at h;rename_i g aP;split at h;rename_i ai b;split at h;rename_i a;split at h;rename_i zs d;cases h;exact aEB c hu aP b d a.1 a.2;cases h;cases h;cases h;cases h;cases h
def anp{k:TypeId}{a:Nat}(h:Up P k=some a):∃kd,P.underlying k=some kd/\q9 kd=some a:=by unfold Up at h;split at h;rename_i kd b;exact⟨kd,b,h⟩;cases h
def ayC{ok:Bool}(d:o.op=.lookup t x y ok)(h:YO P t ok=some f):sY P ρ o f:=by unfold YO at h;split at h;rename_i k e hu;split at h;rename_i j i aj aP;let⟨kd,b,aj⟩:=anp aj;split at h;rename_i ai c;split at h;rename_i g a;cases h;exact aEp d hu b aj aP c a;cases h;cases h;cases h;cases h
def ajr{ai:Operand}(b:o.op=.mapUpdate t x y ai∨o.op=.insert t x y ai)(h:SQ P t=some f):sY P ρ o f:=by unfold SQ at h;split at h;rename_i k e hu;split at h;rename_i c aj;let⟨kd,a,aj⟩:=anp aj;cases h;exact aEC b hu a aj;cases h;cases h
def ayF{E:jX}(q:vk P ρ E)(h:pB P E o.op=some f):sY P ρ o f:=by
 generalize a:o.op=op at h;unfold pB at h;split at h
 .cases h;exact apv (.inl a)
 .cases h;exact apv (.inr a)
 .cases h;exact aHc a
 .cases h;exact azo a
 .cases h;exact aEz a
 .split at h
  .cases h
  .rename_i d hd hu;cases h;exact aC7 a hu (λr e=>hd r e)
  .cases h
 .exact ays a h
 .cases h;exact aLR a
 .split at h
  .rename_i d i hu hi;cases h;exact anP a hu hi
  .cases h
 .split at h
  .rename_i i hi;cases h;exact aKa a hi
  .cases h
 .split at h
  .rename_i s hu;split at h
   .rename_i u k;split at h
    .rename_i t m;split at h
     .rename_i j;cases h;exact azt a hu k m j
     .cases h
    .cases h
   .cases h
  .cases h
 .split at h
  .rename_i s hu;split at h
   .rename_i u k;split at h
    .rename_i d t hd hi;cases h;exact azv a hu k hd hi
    .cases h
   .cases h
  .cases h
 .split at h
  .rename_i e hu;split at h
   .rename_i p aP;cases h;exact aC9 a hu aP
   .cases h
  .rename_i n e hu;split at h
   .rename_i p aP;cases h;exact aC_ a hu aP
   .cases h
  .cases h
 .cases h;exact aFD a
 .split at h
  .rename_i zs l;obtain⟨i,ai,hi,j,l⟩:=as5 l;cases h;exact awM a hi j l
  .cases h
 .cases h;exact aw9 a
 .exact ayu a h
 .exact ayt a h
 .exact ayD a h
 .split at h
  .rename_i hu;cases h;exact aDc a hu
  .cases h
 .exact ayw a h
 .exact ayI a h
 .exact ayC a h
 .cases h;exact aEA a
 .exact ajr (.inl a) h
 .exact ajr (.inr a) h
 .rename_i c;split at h
  .rename_i x g;cases h;exact axq q a g
  .rename_i b g;exact ayv a g h
  .cases h
 .cases h
end
inductive x1 where
 |pS (f:pv)
 |call
def x1.VC(E:jX):x1->pv
 |.pS f=>f
 |.call=>.tl (M2 E)
def FV:jX:=⟨λ_ _ _=>none,λ_ _ _=>none⟩
def rP:Op->Bool
 |.call c=>match c.callee with|.value _=>true|_=>false
 |_=>false
def rz(P:Program)(op:Op):Option x1:=bif rP op then some .call else match pB P FV op with
 |some f=>some (.pS f)
 |none=>none
def ayE{P:Program}{op:Op}{f:pv}(a:rP op=false)(E b:jX):pB P E op=pB P b op:=by unfold pB;split<;>first|rfl|(rename_i c;split<;>first|rfl|(rename_i x d;simp[rP,d]at a))
def ayA{P:Program}{op:Op}{k:x1}(h:rz P op=some k)(E:jX):pB P E op=some (k.VC E):=by
 unfold rz at h;cases a:rP op with
 |true=>
  rw[a]at h;simp only[eZ,cx]at h;subst h;cases op<;>simp only[rP]at a<;>try cases a
  rename_i c;split at a;rename_i x b;simp[pB,b,x1.VC]
  .cases a
 |false=>
  rw[a]at h;simp only[jL]at h;split at h;rename_i f d;cases h;rw[ayE (f:=f) a E FV];exact d;cases h
structure iA where
 guard:Option ((S->U)×Bool)
 dst:Option Nat
 aH:List (S->U)
 k:x1
def iA.HF(E:jX)(c:iA):za:=⟨c.guard,c.dst,c.aH,c.k.VC E⟩
def Ba(E:jX):x1->List U->ay->Option (U×ay)
 |.pS f,s,h=>zh f s h
 |.call,s,h=>M2 E s h
def aw2(E:jX)(k:x1):Ba E k=zh (k.VC E):=by cases k<;>rfl
def oM(E:jX):List iA->S->ay->Option (S×ay)
 |[],s,h=>some (s,h)
 |o::l,s,h=>
  match (match o.guard with|none=>some true|some (x,b)=>zA (x s) b)with
  |some true=>match Ba E o.k (nd o.aH s) h with
   |some (v,a)=>oM E l (pP o.dst v s) a
   |none=>none
  |some false=>oM E l (pP o.dst qG s) h
  |none=>none
def arz(E:jX):∀(l:List iA) (s:S) (h:ay),oM E l s h=Ev (l.map (iA.HF E)) s h
 |[],_,_=>rfl
 |o::l,s,h=>by have a:=arz E l;simp only[oM,qu,Ev,iA.HF,aw2,a];rfl
def PY(E:jX)(rs:List iA):kB:=λx=>match oM E rs x.s x.h with
 |some (s,h)=>some (.iH,⟨s,h,x.kb⟩)
 |none=>none
def aId(E:jX)(rs:List iA):PY E rs=Vc (rs.map (iA.HF E)):=by funext x;simp only[PY,Vc,arz];rfl
structure qw where
 c:iA
 slots:List Nat
 pre:Nat
def qw.As(E:jX)(d:qw):f_:=⟨d.c.HF E,d.slots,d.pre⟩
inductive nf where
 |skip
 |exit (id:Nat)
 |ret
 |seq (a b:nf)
 |cond (t:S->U) (a b:nf)
 |block (id:Nat) (a:nf)
 |loop (a:nf)
 |region (rs:List iA)
 |FI (rs:List qw) (cb:Nat)
 |range (key aB:Nat) (gP:S->U)
 |fail
def tK(E:jX)(n:Nat):nf->kB
 |.skip=>Qa
 |.exit id=>Zf id
 |.ret=>ac2
 |.seq a b=>P8 (tK E n a) (tK E n b)
 |.cond t a b=>Nb t (tK E n a) (tK E n b)
 |.block id a=>MP id (tK E n a)
 |.loop a=>Ee (tK E n a) n
 |.region rs=>PY E rs
 |.FI rs c=>No (rs.map (qw.As E)) c
 |.range key aB d=>PU E key aB d
 |.fail=>Zi
def NK(aB:Nat)(ops:Array Oper):Option (Nat×Bool)->Option (Option ((S->U)×Bool))
 |none=>some none
 |some (j,a)=>match ops[j]? with
  |some o=>match o.dst with
   |some t=>if t<aB then some (some (g t,a))else none
   |none=>none
  |none=>none
def Nr(aB:Nat):Option Nat->Bool
 |some t=>decide (t<aB)
 |none=>true
def Bh(P:Program)(aB:Nat)(ops:Array Oper)(o:Oper):Option iA:=bif Nr aB o.dst then
 match NK aB ops o.guard,Er aB P.globals.size o.op.operands.toList,rz P o.op with
 |some ed,some aH,some k=>some ⟨ed,o.dst,aH,k⟩
 |_,_,_=>none
 else none
def uu(P:Program)(aB:Nat)(ops:Array Oper):List Oper->Option (List iA)
 |[]=>some []
 |o::l=>match Bh P aB ops o,uu P aB ops l with
  |some x,some r=>some (x::r)
  |_,_=>none
def Tb(ops:Array Oper):Option (Nat×Bool)->List Nat
 |none=>[]
 |some (j,_)=>match ops[j]? with
  |some o=>match o.dst with
   |some t=>[t]
   |none=>[]
  |none=>[]
def G7:List Oper->List Nat->List Nat
 |[],a=>a
 |o::l,a=>G7 l (a++[o.after.toList.foldl (λr e=>bif Region.binds .any e then r|||(1<<<e.on)|||a.getD e.on 0 else r) 0])
def vD(ops:Array Oper):List Oper->List iA->List Nat->List qw
 |o::l,c::m,p::q=>⟨c,Tb ops o.guard++Ez o.op.operands.toList,p⟩::vD ops l m q
 |_,_,_=>[]
def am8:x1->Bool
 |.pS (.alloc _ _)=>true
 |_=>false
def SP(P:Program)(aB:Nat)(ops:Array Oper):Option nf:=match uu P aB ops ops.toList with
 |some cs=>match vD ops ops.toList cs (G7 ops.toList [])with
  |ds=>bif B1 aB ops.toList (ds.map (qw.As FV))&&Nat.beq ds.length cs.length then some (.FI ds (cs.filter λc=>am8 c.k).length)else none
 |none=>none
def og:Code->List (Array Tmp×Code×Code)
 |.seq a b=>og a++og b
 |.cond _ a b=>og a++og b
 |.block _ a=>og a
 |.loop a=>og a
 |.rangeFunc _ c a b=>[(c,a,b)]
 |_=>[]
def ka(P:Program)(aB:Nat):Option Nat->Code->Option nf
 |_,.skip=>some .skip
 |_,.label _=>some .skip
 |_,.exit id=>some (.exit id)
 |_,.ret=>some .ret
 |k,.seq a b=>match ka P aB k a,ka P aB (k.map (· +(og a).length)) b with
  |some x,some y=>some (.seq x y)
  |_,_=>none
 |k,.cond t a b=>match sE aB P.globals.size t,ka P aB k a,ka P aB (k.map (· +(og a).length)) b with
  |some t,some x,some y=>some (.cond t x y)
  |_,_,_=>none
 |k,.block id a=>match ka P aB k a with|some x=>some (.block id x)|none=>none
 |k,.loop a=>match ka P aB k a with|some x=>some (.loop x)|none=>none
 |_,.region _ ops false=>match uu P aB ops ops.toList with
  |some cs=>some (.region cs)
  |none=>some .fail
 |_,.region _ ops true=>match SP P aB ops with
  |some c=>some c
  |none=>some .fail
 |some key,.rangeFunc f _ _ _=>match sE aB P.globals.size f with
  |some d=>some (.range key aB d)
  |none=>none
 |_,_=>some .fail
section
variable {P:Program} {ρ:cj} {E:jX} {aB:Nat}
def ajs(g:vk P ρ E){ops:Array Oper}{o:Oper}{c:iA}(h:Bh P aB ops o=some c):Sc P ρ aB ops o (c.HF E):=by
 unfold Bh at h;cases hd:Nr aB o.dst with
 |false=>rw[hd]at h;simp at h
 |true=>
  rw[hd]at h;simp only[eZ]at h;split at h
  .rename_i ed aH k ar f a;cases h;refine⟨ayF g (ayA a E),ap6 f,rfl,λt aj=>?_,λcl i=>?_,?_⟩;rw[aj]at hd;simpa[Nr]using hd;rw[i]at a;simp[rz,rP,pB]at a
   .cases b:o.guard with
    |none=>rw[b]at ar;simp[NK]at ar;subst ar;rfl
    |some e=>
     let⟨j,l⟩:=e;rw[b]at ar;simp only[NK]at ar;split at ar;rename_i m d;split at ar;rename_i t aj;split at ar;rename_i au;cases ar;exact⟨t,by simp[d,aj],au,rfl⟩;cases ar;cases ar;cases ar
  cases h
def aju(a:vk P ρ E){ops:Array Oper}:∀{l:List Oper} {cs:List iA},uu P aB ops l=some cs->Sd P ρ aB ops l (cs.map (iA.HF E))
 |[],cs,h=>by simp[uu]at h;subst h;trivial
 |o::l,cs,h=>by simp only[uu]at h;split at h;{rename_i x r b c;cases h;exact⟨ajs a b,aju a c⟩};{cases h}
def ayH{ops:Array Oper}{o:Oper}{c:iA}(h:Bh P aB ops o=some c){slots:List Nat}(d:∀t∈Tb ops o.guard++Ez o.op.operands.toList,t∈slots): (∀x∈c.aH,Ie slots x)/\∀x e,c.guard=some (x,e)->Ie slots x:=by
 unfold Bh at h;cases hd:Nr aB o.dst with
 |false=>rw[hd]at h;simp at h
 |true=>
  rw[hd]at h;simp only[eZ]at h;split at h
  .rename_i ed aH k ar l m;cases h;refine⟨ap5 l λt aj=>d t (afE _ aj),λx e b=>?_⟩;cases a:o.guard with
   |none=>rw[a]at ar;simp[NK]at ar;subst ar;cases b
   |some i=>
    let⟨j,w⟩:=i;rw[a]at ar;simp only[NK]at ar;split at ar;rename_i p g;split at ar;rename_i t aj;split at ar;cases ar;simp only[cx,iX]at b;obtain⟨rfl,rfl⟩:=b;intro s n f;exact f t (d t (afD _ (by simp[Tb,a,g,aj])));cases ar;cases ar;cases ar
  cases h
def aiC(d:vk P ρ E){ops:Array Oper}:∀{l:List Oper} {cs:List iA} {a:List Nat},uu P aB ops l=some cs->(vD ops l cs a).length=cs.length->
  CU P ρ aB ops l ((vD ops l cs a).map (qw.As E))
 |[],cs,a,h,_=>by simp[uu]at h;subst h;simp[vD,CU]
 |o::l,cs,a,h,b=>by
  simp only[uu]at h;split at h
  .rename_i x r c e;cases h;cases a with
   |nil=>simp[vD]at b
   |cons p q=>
    simp only[vD,qu]
    simp only[vD,l8,Nat.add_right_cancel_iff]at b
    have Hd:=ayH c (slots:=Tb ops o.guard++Ez o.op.operands.toList) λ_ h=>h
    exact⟨⟨ajs d c,Hd.1,Hd.2⟩,aiC d e b⟩
  .cases h
def aJ4{ops:List Oper}{ds:List qw}(E a:jX):B1 aB ops (ds.map (qw.As E))=B1 aB ops (ds.map (qw.As a)):=by
 unfold B1;simp only[ou];congr 1;funext i;cases ops[i]? with
 |none=>rfl
 |some o=>
  cases hi:ds[i]? with
  |none=>rfl
  |some d=>
   simp only[ov,qw.As,iA.HF];congr 1;congr 1;congr 1;congr 1;congr 1;funext j;congr 1;congr 1;funext e;cases ds[e.on]? <;>rfl;congr 1;funext j;cases ds[j]? <;>rfl
def ayx(b:P.follows .mixedOrders=true)(d:vk P ρ E){B:mz->Prop}{id n:Nat}{ops:Array Oper}{c:nf}(h:SP P aB ops=some c):ns P ρ aB B (.region id ops true) (tK E n c):=by
 unfold SP at h;split at h
 .rename_i cs e;simp only at h;cases a:(B1 aB ops.toList ((vD ops ops.toList cs (G7 ops.toList [])).map (qw.As FV))&&Nat.beq (vD ops ops.toList cs (G7 ops.toList [])).length cs)with
  |false=>rw[a]at h;simp at h
  |true=>rw[a]at h;simp only[eZ,cx]at h;subst h;simp only[dW]at a;simp only[tK];exact aI8 b (aiC d e (gK a.2)) (by rw[aJ4 E FV];exact a.1)
 cases h
def Ff(ρ:cj)(f:FuncId)(k:Option Nat)(rs:List (Array Tmp×Code×Code)):Prop:=∀key,k=some key->∀i x,rs[i]? =some x->∃l,ρ.ql (key+i)=some l/\l.fn=f/\l.params=x.1/\l.assign=x.2.1/\l.body=x.2.2
variable{f:FuncId}{k:Option Nat}
def Ff.left{a b:List (Array Tmp×Code×Code)}(h:Ff ρ f k (a++b)):Ff ρ f k a:=λkey d i x c=>
 h key d i x (by rw[CM (kL.1 c).1];exact c)
def Ff.right{a b:List (Array Tmp×Code×Code)}(h:Ff ρ f k (a++b)):Ff ρ f (k.map (· +a.length)) b:=λkey c i x d=>by
 simp only[iW]at c
 obtain⟨e,rfl,rfl⟩:=c
 let⟨l,H,I⟩:=h e rfl (a.length+i) x (by rw[EP z];simpa using d)
 exact⟨l,by rw[k4];exact H,I⟩
def zv(o:P.follows .mixedOrders=true)(j:vk P ρ E){n:Nat}{f:FuncId}{B:mz->Prop}:∀(code:Code) (k:Option Nat) (c:nf),(k≠none->∀b,B b->b.roundOf=none/\b.fn=f)->Ff ρ f k (og code)->ka P aB k code=some c->ns P ρ aB B code (tK E n c)
 |.skip,k,c,i,g,h=>by simp only[ka,cx]at h;subst h;exact aJe
 |.label l,k,c,i,g,h=>by simp only[ka,cx]at h;subst h;exact aI_
 |.exit id,k,c,i,g,h=>by simp only[ka,cx]at h;subst h;exact aI9
 |.ret,k,c,i,g,h=>by simp only[ka,cx]at h;subst h;exact aJc
 |.seq a b,k,c,i,g,h=>by simp only[ka]at h;split at h;{rename_i x y m r;cases h;simp only[og]at g;exact aJd (zv o j a k x i g.left m) (zv o j b _ y (λq=>i (λe=>q (by rw[e];rfl))) g.right r)};{cases h}
 |.cond t a b,k,c,i,g,h=>by simp only[ka]at h;split at h;{rename_i J x y aj m r;cases h;simp only[og]at g;exact aI7 (acG aj) (zv o j a k x i g.left m) (zv o j b _ y (λq=>i (λe=>q (by rw[e];rfl))) g.right r)};{cases h}
 |.block id a,k,c,i,g,h=>by simp only[ka]at h;split at h;{rename_i x m;cases h;exact aI6 (zv o j a k x i g m)};{cases h}
 |.loop a,k,c,i,g,h=>by simp only[ka]at h;split at h;{rename_i x m;cases h;exact aI' (zv o j a k x i g m) n};{cases h}
 |.region id ops d,k,c,i,g,h=>by
  cases d with
  |false=>
   simp only[ka]at h
   split at h
   .rename_i cs A
    cases h
    simp only[tK,aId]
    exact aJb (aju j A)
   .cases h;exact KG
  |true=>
   simp only[ka]at h
   split at h
   .rename_i L C
    cases h
    exact ayx o j C
   .cases h;exact KG
 |.rangeFunc F D a b,k,c,i,g,h=>by
  cases k with
  |none=>simp only[ka,cx]at h;subst h;exact KG
  |some key=>
   simp only[ka]at h
   split at h
   .rename_i M s
    cases h
    let⟨l,H,I,w,u,z⟩:=g key rfl 0 (D,a,b) rfl
    exact aJa j (λb G=>by rw[I];exact i aq b G) H w u z (acG s)
   .cases h
 |.scope a,k,c,i,g,h=>by simp only[ka,cx]at h;subst h;exact KG
 |.goto l,k,c,i,g,h=>by simp only[ka,cx]at h;subst h;exact KG
 |.refuse K,k,c,i,g,h=>by simp only[ka,cx]at h;subst h;exact KG
end
end Go.cE
namespace Go.cE
open Go.Proofs.Tryz
structure qx where
 aB:Nat
 rs:List s2
 c:nf
def Bi(P:Program)(aB:Nat):List ResultVar->Option (List s2)
 |[]=>some []
 |.tmp t::l=>if t<aB then(match Bi P aB l with|some r=>some (.tmp t::r)|none=>none)else none
 |.cell b t::l=>if b<aB then(match P.underlying t,P.info? t,Bi P aB l with
  |some d,some i,some r=>some (.cell b (vz d) i.size::r)
  |_,_,_=>none)else none
def wa(f:FuncId):Nat:=f*64
def I8(P:Program)(f:FuncId):Option qx:=match P.funcs[f]? with
 |some fn=>match fn.body with
  |some body=>bif (fn.name != "runtime.NumGoroutine")&&Nat.ble fn.ntmps 256&&Nat.ble (og body).length 64 then
    match Bi P fn.ntmps fn.results.toList,ka P fn.ntmps (some (wa f)) body with
    |some rs,some c=>some ⟨fn.ntmps,rs,c⟩
    |_,_=>none
   else none
  |none=>none
 |none=>none
def rangeAt(P:Program)(key:Nat):Option (Nat×Array Tmp×Code×Code):=match P.funcs[key/64]? with
 |some fn=>match fn.body with
  |some body=>match (og body)[key%64]? with
   |some x=>some (fn.ntmps,x)
   |none=>none
  |none=>none
 |none=>none
def nH(P:Program)(key:Nat):Option Loop:=match rangeAt P key with
 |some (_,c,a,b)=>some {state:=.ready,pending:=none,fn:=key/64,tmps:=#[],params:=c,assign:=a,body:=b,defers:=0}
 |none=>none
structure AQ where
 aB:Nat
 params:List Nat
 a:nf
 b:nf
def ajq(P:Program)(key:Nat):Option AQ:=match rangeAt P key with
 |some (aB,c,a,b)=>bif c.toList.all (λt=>decide (t<aB))then
   match ka P aB none a,ka P aB none b with
   |some x,some y=>some ⟨aB,c.toList,x,y⟩
   |_,_=>none
  else none
 |none=>none
abbrev CW:=FuncId->Option (List U->ay->Option (U×ay))
def Ux(P:Program)(E:jX)(n:Nat)(key:Nat):Option R6:=match ajq P key with
 |some l=>some ⟨l.aB,l.params,tK E n l.a,tK E n l.b⟩
 |none=>none
section
variable {P:Program} {ρ:cj} {E:jX}
def SR{aB:Nat}:∀{l:List ResultVar} {rs:List s2},Bi P aB l=some rs->Mq P aB l rs
 |[],rs,h=>by simp[Bi]at h;subst h;trivial
 |.tmp t::l,rs,h=>by simp only[Bi]at h;split at h;{rename_i au;split at h;{rename_i r a;cases h;exact⟨⟨rfl,au⟩,SR a⟩};{cases h}};{cases h}
 |.cell b t::l,rs,h=>by simp only[Bi]at h;split at h;{rename_i au;split at h;{rename_i d i r hd hi a;cases h;exact⟨⟨rfl,au,d,i,hd,hi,rfl,rfl⟩,SR a⟩};{cases h}};{cases h}
variable{f:FuncId}{d:qx}
def ayz(o:P.follows .mixedOrders=true)(r:ρ.ql=nH P)(p:vk P ρ E)(h:I8 P f=some d)(n:Nat):nO P ρ f (DB d.aB d.rs (tK E n d.c)):=by
 unfold I8 at h;split at h
 .rename_i fn k;split at h
  .rename_i body G;cases e:((fn.name != "runtime.NumGoroutine")&&Nat.ble fn.ntmps 256&&Nat.ble (og body).length 64)with
   |false=>rw[e]at h;simp at h
   |true=>
    rw[e]at h;simp only[eZ]at h;simp only[dW]at e;let⟨⟨H,I⟩,j⟩:=e;have j:=hZ j;split at h
    .rename_i rs c t q;cases h;refine azP k G (by simpa using H) rfl (hZ I) (SR t) (B:=λb=>b.roundOf=none/\b.fn=f) ⟨rfl,rfl⟩ (zv o p (f:=f) body (some (wa f)) c (λ_ b G=>G) ?_ q);intro key l i x g;cases l;have hi:i<(og body).length:=(kL.1 g).1;have ak:(wa f+i)/64=f:=by unfold wa;omega
     have m:(wa f+i)%64=i:=by unfold wa;omega
     let⟨s,a,b⟩:=x;refine⟨{state:=.ready,pending:=none,fn:=f,tmps:=#[],params:=s,assign:=a,body:=b,defers:=0},?_,rfl,rfl,rfl,rfl⟩;rw[r];simp only[nH,rangeAt,ak,m,k,G,g]
    cases h
  cases h
 cases h
def aEq(j:P.follows .mixedOrders=true)(q:ρ.ql=nH P)(k:vk P ρ E)(n:Nat):ahl P ρ (Ux P E n):=by
 refine⟨λkey s l d e=>?_⟩;rw[q]at e;unfold Ux at d;split at d
 .rename_i cl c;cases d;unfold ajq at c;split at c
  .rename_i aB r a b p;cases g:r.toList.all (λt=>decide (t<aB))with
   |false=>rw[g]at c;simp at c
   |true=>
    rw[g]at c;simp only[eZ]at c;split at c;rename_i x y o m;cases c;simp only[nH,p,cx]at e;subst e;refine⟨rfl,λt aj=>?_,zv j k (f:=0) a none x (λh=>(h rfl).elim) (λkey i=>by cases i) o,zv j k (f:=0) b none y (λh=>(h rfl).elim) (λkey i=>by cases i) m⟩;simpa using iq.1 g t aj;cases c
  cases c
 cases d
end
section
variable {P:Program} {ρ:cj}
def azO{f:FuncId}{fn:Func}{body:Code}{aB:Nat}{rs:List s2}{F:kB}(z:P.funcs[f]? =some fn)(G:fn.body=some body)(E:fn.ntmps=aB)(dQ:aB<=256)(vW:Mq P aB fn.results.toList rs) {B:mz->Prop}(bg:B ⟨f,.normal,none⟩)(Y:ns P ρ aB B body F){σ:b9}{args:List U}{h:ay}{v:U}{n:ay}{cs:List Φ}{w:Γ}(ar:kM P σ)(jS:b5 ρ σ args=some cs)(Z:c_ ρ σ h w)(J:DB aB rs F args h=some (v,n)): Calls P f cs.toArray w λe w'=>∃c,e=.returned c/\ro ρ σ h w v n c w':=by
 unfold DB at J;cases r:Nat.ble args aB with
 |false=>rw[r]at J;simp at J
 |true=>
  rw[r]at J;simp only[eZ]at J;have N:=hZ r;intro g;have R:Frame.enter P f cs.toArray .normal=fr ⟨f,.normal,none⟩ (cs.toArray++Array.replicate (aB-cs.toArray.size) undef) [] [.code body]:=by simp[Frame.enter,fr,z,G,E]
  rw[R];have fb:Dl P ρ aB σ ⟨xq args 0 bY,h,[]⟩ (cs.toArray++Array.replicate (aB-cs.toArray.size) undef) [] w:=⟨.start jS N dQ,Z,rfl,ar⟩;have D:∀(e:X) (x:gU),(∀id,e≠ .exit id)->F ⟨xq args 0 bY,h,[]⟩=some (e,x)->Dz rs x=some (v,n)->
    ∃(e:Ending) (w':Γ) (q:Frame),(∃c,e=.returned c/\ro ρ σ h w v n c w')/\Comes P (lone (fr ⟨f,.normal,none⟩ (cs.toArray++Array.replicate (aB-cs.toArray.size) undef) [] [.code body]) g w) (lone q g w') e/\q.fn=f/\q.leaving P w' e:=λe x W j d=>by
   obtain⟨C,bZ,n2,T,o,O,b7⟩:=Y σ _ e x j ⟨f,.normal,none⟩ bg [] g _ [] w fb;have Q:∃todo,Steps P (lone (fr ⟨f,.normal,none⟩ (cs.toArray++Array.replicate (aB-cs.toArray.size) undef) [] [.code body]) g w) (lone (ya ⟨f,.normal,none⟩ bZ n2 todo) g T):=by
    cases e with
    |iH=>exact⟨[],tT b7 (.one (ar' rfl))⟩
    |exit id=>exact(W id rfl).elim
    |ret=>obtain⟨dx,cw⟩:=b7;exact⟨.code .ret::dx,tT cw (.one (asc rfl))⟩
   obtain⟨todo,ik⟩:=Q;unfold Dz at d;split at d
   .rename_i I M;obtain⟨i,t,cv,ek⟩:=aed (P:=P) (b:=⟨f,.normal,none⟩) (a:=bZ) (k:=todo) (cs:=g) M o.d o.h;split at d
    .rename_i vs S;simp only[cx,iX]at d;obtain⟨rfl,rfl⟩:=d;obtain⟨s,u1,u2⟩:=ac1 o.g o.s t vW S;have df:=nu u1;have V:(fn.results.mapM (Ky bZ):Sem Ω).run P i=.ok s.toArray i:=by rw[afd];simp only[afl];rw[u2];rfl
     have d:∃u,aT ρ C (G1 vs)=some u/\(results fn bZ).run P i=.ok u i:=by
      rw[arb];simp only[e7];rw[V];simp only[eY,fI]
      match vs,s,u1,df with
      |[y],[u],u1,_=>obtain⟨A,L,cg⟩:=i' u1;cases cg;exact⟨u,L,aq⟩
      |[],[],u1,_=>exact⟨.tuple #[],by simp[G1,aT,b5],aq⟩
      |y::mT::l,u::A::m,u1,_=>exact⟨.tuple (u::A::m).toArray,by simp[G1,aT,u1],aq⟩
     obtain⟨u,H,K⟩:=d;exact⟨.returned u,i,_,⟨u,rfl,C,H,t,O.trans cv⟩,tT ik ek,rfl,⟨rfl,rfl,rfl,fn,z,K⟩⟩
    .cases d
   .cases d
  split at J
  .rename_i x j;exact D .iH x (λid ak=>by cases ak) j J
  .rename_i x j;exact D .ret x (λid ak=>by cases ak) j J
  .cases J
def ayy(q:P.follows .mixedOrders=true)(u:ρ.ql=nH P){E:jX}(s:vk P ρ E){f:FuncId}{d:qx}(h:I8 P f=some d)(n:Nat){σ:b9}{args:List U}{ag:ay}{v:U}{j:ay}{cs:List Φ}{w:Γ}(ar:kM P σ)(y:b5 ρ σ args=some cs)(r:c_ ρ σ ag w)(J:DB d.aB d.rs (tK E n d.c) args ag=some (v,j)): Calls P f cs.toArray w λe w'=>∃c,e=.returned c/\ro ρ σ ag w v j c w':=by
 unfold I8 at h;split at h
 .rename_i fn m;split at h
  .rename_i body G;cases g:((fn.name != "runtime.NumGoroutine")&&Nat.ble fn.ntmps 256&&Nat.ble (og body).length 64)with
   |false=>rw[g]at h;simp at h
   |true=>
    rw[g]at h;simp only[eZ]at h;simp only[dW]at g;obtain⟨⟨H,I⟩,l⟩:=g;have l:=hZ l;split at h
    .rename_i rs c A t;cases h;refine azO m G rfl (hZ I) (SR A) (B:=λb=>b.roundOf=none/\b.fn=f) ⟨rfl,rfl⟩ (zv q s (f:=f) body (some (wa f)) c (λ_ b G=>G) ?_ t) ar y r J;intro key o i x k;cases o;have hi:i<(og body).length:=(kL.1 k).1;have ak:(wa f+i)/64=f:=by unfold wa;omega
     have p:(wa f+i)%64=i:=by unfold wa;omega
     obtain⟨z,a,b⟩:=x;refine⟨{state:=.ready,pending:=none,fn:=f,tmps:=#[],params:=z,assign:=a,body:=b,defers:=0},?_,rfl,rfl,rfl,rfl⟩;rw[u];simp only[nH,rangeAt,ak,p,m,G,k]
    .cases h
  .cases h
 .cases h
end
end Go.cE
