/- ItemInForce, one part of the proof. -/
import Derived.Test.YtdhifebhlocikaaGreatDoorRows
import Derived.ProofKit
import Derived.LaidMore
import Derived.OpenShut
import Derived.Stop.Joined
import Derived.Lay
import Derived.Carry
import Derived.Lib.LaidU8
import Derived.Test.YtdhifebhlocikaaGreatDoorP20
import Derived.Test.YtdhifebhlocikaaGreatDoorP22
import Derived.Test.YtdhifebhlocikaaGreatDoorP23
import Derived.Test.YtdhifebhlocikaaGreatDoorP24
set_option linter.all false
set_option maxRecDepth 100000
set_option maxHeartbeats 16000000
namespace Go.Proofs.YtdhifebhlocikaaGreatDoor
open Go Go.Proofs.Tryz Go.aM Go.bE Go.ChangeShapes Go.WideShapes Go.ChangeAt Go.WideMaps Go.WideElems Go.RowKit
def aHz:ownKnob prog.godebug=none:=by kernel_rfl
def acR:laidOutB prog=true:=by kernel_rfl
abbrev apK:String:=((Rows.itemInForceRow.laid[8]?).map (·.1)).getD ""
abbrev apJ:String:=((Rows.itemInForceRow.laid[0]?).map (·.1)).getD ""
def aHw:prog.globalNamed apK=some 0:=by kernel_rfl
def aHA:(prog.globals[0]?).map (·.type)=some 304:=by kernel_rfl
def aHC:prog.underlying 304=some (.array 7 3):=by kernel_rfl
def aHx:prog.globalNamed apJ=some 1:=by kernel_rfl
def aHB:(prog.globals[1]?).map (·.type)=some 358:=by kernel_rfl
def aHD:prog.underlying 358=some (.array 20 191):=by kernel_rfl
def acS:prog.underlying 3=some (.int .i64):=by kernel_rfl
def aHF:prog.underlying 191=some (.int .u64):=by kernel_rfl
def aHE:prog.underlying 4=some .bool:=by kernel_rfl
def U3:prog.underlying 22=some (.slice 3):=by kernel_rfl
def acQ:prog.cellsOf 3=1:=by kernel_rfl
def aHv:prog.cellsOf 191=1:=by kernel_rfl
def aHs:prog.cellsOf 304=7:=by kernel_rfl
def aHt:prog.cellsOf 358=20:=by kernel_rfl
def aqM:prog.globals.size=13:=by kernel_rfl
def aHp:(((begin prog (λ_ _=>0) default).world.heap[0]?).bind Obj.row?).map (·.2)=some 304:=by kernel_rfl
def aHq:(((begin prog (λ_ _=>0) default).world.heap[1]?).bind Obj.row?).map (·.2)=some 358:=by kernel_rfl
variable{W:Γ}{n:Nat}{t e:TypeId}{kd:IntKind}{zs:List Int}
def aFW{j:Nat}{cs:List Φ}{p:List MemPlace}(hu:prog.underlying t=some (.array n e))(aP:prog.underlying e=some (.int kd))(b:prog.cellsOf e=1)(c:prog.cellsOf t=n)(o:zs.length=n) (h:DataW.trod (λ_:TypeId×Φ=>()) prog W 0 (λ_=>true) false j t cs=some (.agg (zs.map λai=>.lit (.int kd ai)),p)):cs=zs.map λai=>Value.int kd ai:=by
 let⟨aH,m,_,f,g,l,a⟩:=DataW.trod_array hu h;rw[c]at g;rw[b]at a;simp only[tX]at a;have hd:(aH.map (·.1))=zs.map λai=>.lit (.int kd ai):=by have:=iY Prod.fst f;simp only[DataW.agg.injEq]at this;exact this.symm
 apply Lb;intro i;by_cases hi:i<n
 .have H:=a i hi;have au:i<aH.length:=by omega
  rw[j_ au]at H;let⟨k,ak,d,_⟩:=DataW.trod_int aP H;have bZ:cs[i]? =some (.int kd k):=by(have:((cs.drop i).take 1)[0]? =some (.int kd k):=by rw[ak];rfl);rw[pk,ci (by omega),Ld]at this;simpa using this
  have cz:(aH.map (·.1))[i]? =some (.lit (.int kd k)):=by rw[ou,j_ au,d];rfl
  rw[hd,ou,j_ (by omega)]at cz;have a3:(DataW.lit (.int kd (zs[i]'(by omega))):DataW Unit)=.lit (.int kd k):=gm cz;cases a3;rw[bZ,ou,j_ (by omega)];rfl
 rw[rh (by omega),rh (by simp;omega)]
def anw(l:W.ShapedOpen prog)(a:laidMetH prog sG W){nm:String}{g:Nat}(j:(nm,(.agg (zs.map λai=>.lit (.int kd ai)):DataW Unit))∈sG)(ar:prog.globalNamed nm=some g)(aj:(prog.globals[g]?).map (·.type)=some t)(hu:prog.underlying t=some (.array n e))(aP:prog.underlying e=some (.int kd))(c:prog.cellsOf e=1)(d:prog.cellsOf t=n)(k:zs.length=n)(au:g<13) (G:(((begin prog (λ_ _=>0) default).world.heap[g]?).bind Obj.row?).map (·.2)=some t):∃bd,W.heap[g]? =some (.cells (zs.map λai=>Value.int kd ai).toArray t bd):=by
 have b:laidMet prog sG W:=by rw[asV]at a;exact a
 let⟨s,r,cs,u,p,f,q,J,hd⟩:=Lib.laidMet.reads b j;obtain rfl:=gm (ar.symm.trans f);obtain rfl:=gm (aj.symm.trans q);have o:=aFW hu aP c d k hd;rw[iW]at G;let⟨x,i,h⟩:=G;let⟨m,H,_⟩:=l.1 g x.1 x.2 (by rw[aqM];exact au) i;rw[h]at H;have e:m=cs:=by simp only[World.var?,ar,CQ,H,cx]at J;exact J
 refine⟨(0,0),?_⟩;rw[H,e];have:cs=(zs.map λai=>Value.int kd ai).toArray:=by apply afe.1;rw[o]
 rw[this]
def aKC(a:W.ShapedOpen prog)(b:laidMetH prog sG W):Fq W:=
 anw a b (nm:=apK) (zs:=[1,10,100,1000,10000,100000,1000000]) (kd:=.i64) (ES.2 ⟨8,rfl⟩) aHw aHA aHC acS acQ aHs rfl (by omega) aHp
def aHk(a:W.ShapedOpen prog)(b:laidMetH prog sG W):Fh W:=
 anw a b (nm:=apJ) (zs:=Lib.pow10Tab) (kd:=.u64) (ES.2 ⟨0,rfl⟩) aHx aHB aHD aHF aHv aHt Lib.pow10Tab_length (by omega) aHq
def XP(b o j:Nat):(⟨b,o,none⟩:Addr).add j=⟨b,o+j,none⟩:=by unfold Addr.add;split<;>simp_all
set_option maxRecDepth 100000 in
def aFX{ay:Type}{enc:TypeId×Value→ay}{W:World}{base:Nat}{v:Value}{d:DataW ay}{p:List MemPlace}(J:Value.okWide prog W .any base 22 v)(h:DataW.Trod enc prog W 0 (fun _=>true) true 22 v d p):∃a n c,v=.slice a n c∧k_ W a n∧(∀q,a=some q→q.block<W.heap.size)∧n≤maxLen:=by
 obtain⟨a,n,c,rfl⟩:=okWide_slice U3 J;refine⟨a,n,c,rfl,?_⟩;obtain⟨x,h⟩:=h;have j:∀q,a=some q→q.spot=none∧q.block<W.heap.size:=fun q g=>by
  subst g;simp only[Value.okWide,U3,Cell.okWide,Cell.ok]at J;obtain⟨_,_,_,f,row,cells,t,_⟩:=J;refine⟨f,?_⟩;by_cases au:q.block<W.heap.size
  ·exact au
  ·simp[World.shape?,au]at t
 rcases open_ints U3 acS acQ h with⟨e,_⟩|⟨q,len,cap,zs,e,_,s,k,u,_,m,_⟩
 ·simp[Value.cells]at e;obtain⟨rfl,rfl,rfl⟩:=e;exact⟨.inl rfl,fun q g=>(by cases g),dh _⟩
 ·simp[Value.cells]at e;obtain⟨rfl,rfl,rfl⟩:=e;obtain⟨f,G⟩:=j q rfl;obtain⟨b,o,w⟩:=q;simp only at f;subst f;refine⟨.inr ⟨b,o,rfl,fun i hi=>⟨zs.getD i 0,?_⟩⟩,fun l r=>(j l r).2,c6 s k⟩;have:=m i (by rw[u];simp;omega);rw[XP]at this;exact this
set_option maxRecDepth 100000 in
def aHG(os:Os)(ay:Type)(enc:TypeId×Value→ay):∃(w:World) (tape:Tape) (i:Input),w.os=os∧(w.forCall tape i).Shaped checked.prog∧i.vars=[]∧Input.okWide checked.prog (w.forCall tape i) .any w.heap.size 3 i∧
   ((Rows.itemInForceSpec.pre enc checked.prog f3 [] false (w.forCall tape i).memory i.args∧laidMetH prog sG (w.forCall tape i).memory)∧sizedMet enc checked.prog f3 (OpenSpec.ofChange Rows.itemInForceSpec) false (w.forCall tape i).memory i.args)∧({}:Assume).holds checked.prog (lone (Frame.enter checked.prog 3 i.args .normal) [] (w.forCall tape i)):=
 ChangeSpec.witness_shaped (enc:=enc) (C:=checked) (os:=os) (X:=fun w _=>laidMetH prog sG w) false (World.laidAll prog os sG) #[.slice none 0 0,.slice none 0 0] 8 (World.laidAll_os _ _ _)
  (World.shaped_of_ZipB (aMe os) (aMc os)) (aMa os) (aMb enc os) (aMd enc os)
  (by rw[asV];exact laidMet_laidAll _ (aL_ os) (aL' os))
def acT:prog.underlying 23=some (.slice 22):=by kernel_rfl
def aHu:prog.cellsOf 22=1:=by kernel_rfl
def aHr:(((begin prog (λ_ _=>0) default).world.heap[12]?).bind Obj.row?).isSome=true:=by kernel_rfl
def aA8(b:W.ShapedOpen prog):13≤W.heap.size:=by let⟨x,a⟩:=atG.1 aHr;let⟨c,H,_⟩:=b.1 12 x.1 x.2 (by rw[aqM];omega) a;exact(hl.1 H).1
def FC{W:Γ}{x:Addr}{cs:List Φ}(h:W.cells? 0 x 1=some cs):∃c,cs=[c]∧W.cell? x=some c:=by
 have dA:x.add 0=x:=by simp[Addr.add]
 simp[World.cells?,Li,dA]at h;cases a:W.cell? x with
 |none=>simp[a]at h
 |some c=>simp[a]at h;exact⟨c,h.symm,rfl⟩
set_option maxRecDepth 100000 in
def aFU{ay:Type}{enc:TypeId×Value→ay}{W:World}{base:Nat}{v:Value}{d:DataW ay}{p:List MemPlace}(J:Value.okWide prog W .any base 23 v)(h:DataW.Trod enc prog W 0 (fun _=>true) true 23 v d p):∃a n c,v=.slice a n c∧Fg W a n:=by
 obtain⟨a,n,c,rfl⟩:=okWide_slice acT J;refine⟨a,n,c,rfl,?_⟩;obtain⟨R,h⟩:=h;have K:∀q,a=some q→q.spot=none∧q.block<W.heap.size:=fun q j=>by
  subst j;simp only[Value.okWide,acT,Cell.okWide,Cell.ok]at J;obtain⟨_,_,_,f,row,cells,F,_⟩:=J;refine⟨f,?_⟩;by_cases au:q.block<W.heap.size
  ·exact au
  ·simp[World.shape?,au]at F
 rcases DataW.trod_slice acT h with⟨l,_⟩|⟨q,len,cap,N,rest,m,_,l,_,_,_,_,P,G,_,_⟩
 ·simp[Value.cells]at l;obtain⟨rfl,rfl,rfl⟩:=l;exact .inl rfl
 ·simp[Value.cells]at l;obtain⟨rfl,rfl,rfl⟩:=l;obtain⟨f,z⟩:=K q rfl;obtain⟨b,o,L⟩:=q;simp only at f;subst f;refine .inr ⟨b,o,rfl,z,fun i hi=>?_⟩;have H:=G i hi;rw[aHu,tX,j_ (by omega),Option.bind_eq_some_iff]at H;obtain⟨Q,w,I⟩:=H;rw[XP]at w;obtain⟨t,rfl,u⟩:=FC w;rcases open_ints U3 acS acQ I with⟨ak,_⟩|⟨e,r,x,zs,ak,_,E,A,y,_,s,_⟩
  ·obtain rfl:t=.slice none 0 0:=by injection ak
   exact⟨none,0,0,u,.inl rfl,fun q j=>(by cases j),dh _⟩
  ·obtain rfl:t=.slice (some e) r x:=by injection ak
   have key:0<r→e.spot=none∧e.block<W.heap.size:=fun af=>by
    have g:=s 0 (by rw[y];simp;omega);rw[show e.add 0=e by simp[Addr.add]]at g;refine⟨?_,V8 W _ g⟩;cases B:e.spot with
    |none=>rfl
    |some k=>
     exfalso;unfold World.cell? at g;rw[B]at g;split at g
     ·simp at g
     ·cases g
   refine⟨some e,r,x,u,?_,fun q j af=>by cases j;exact(key af).2,c6 E A⟩;by_cases af:r=0
   ·exact .inl af
   ·have f:=(key (by omega)).1;obtain⟨C,D,O⟩:=e;simp only at f;subst f;refine .inr ⟨C,D,rfl,fun k M=>⟨zs.getD k 0,?_⟩⟩;have:=s k (by rw[y];simp;omega);rw[XP]at this;exact this
set_option maxRecDepth 100000 in
def aHy(os:Os)(adz:os.Started)(ay:Type)(enc:TypeId×Value→ay): ReturnsInHanded {} checked os 3 .any (fun w args=>(Rows.itemInForceSpec.pre enc prog f3 [] false w args∧laidMetH prog sG w)∧sizedMet enc prog f3 (OpenSpec.ofChange Rows.itemInForceSpec) false w args) (Rows.itemInForceSpec.post enc prog f3 false true false false):=by
 refine returnsInHanded_of_calls (C:=checked) aHz adz (by kernel_rfl) (aHG os ay enc) ?_;intro w tape i _ aa' _ tv jG aNC;obtain⟨_,_,_,Zo,aBi,_,_,_,_,aCO⟩:=tv;have e:Zo=f3:=gm (aBi.symm.trans func3);subst e;obtain⟨⟨⟨ds,oC,aMG,dY,O⟩,aa⟩,az⟩:=jG;have D8:=DataW.Whole.of_heap (w':=w.forCall tape i) (by rfl) dY;have cK:laidMetH prog sG (w.forCall tape i):=aa.of_heap (by rfl);have key:Calls checked.prog 3 i.args (w.forCall tape i) fun e W'=>∃v,e=.returned v∧Rows.itemInForceSpec.post enc checked.prog f3 false true false false (w.forCall tape i) i.args v W':=by have dm:=aKC aa' cK;have e':=aHk aa' cK;have JV:∀(j:Nat) t v,f3.params[j]? =some t→i.args[j]? =some v→Value.okWide prog (w.forCall tape i) .any w.heap.size t v:=aCO;generalize w.forCall tape i=W at*;generalize i.args=args at*;have To:=D8;obtain⟨p,q,Td,eV,rfl,_,_⟩:=D8;have cS:DataW.TrodAll enc prog W 0 (fun _=>true) true f3.params.toList args.toList ds p:=Td;rw[params3]at cS JV;obtain⟨v0,el,gW,eM,eQ,dB,rfl,rfl,rfl,af,H⟩:=trodAll_two cS;obtain⟨rfl,rfl⟩:=trodVars_none eV;simp only[rf]at To;have aaL:∀y∈eQ,y.block<W.heap.size:=fun y aC=>To.lt y (by simp[aC]);have BA:∀y∈dB,y.block<W.heap.size:=fun y aC=>To.lt y (by simp[aC]);obtain⟨bZ,bT,c1,ak,bL,cC,gF⟩:=aFX (JV 0 22 v0 rfl rfl) af;obtain⟨cz,eW,c2,aI,dd⟩:=aFU (JV 1 23 el rfl rfl) H;subst ak aI;refine(aDd W dm e' (aA8 aa') bZ bT c1 bL cC gF cz eW c2 dd).mono fun e W' ⟨aP,G⟩=>?_;have aP:e=.returned (.bool true):=aP;subst aP;exact⟨_,rfl,_,_,_,[],_,[],To,trodAll_mk1 (shut_bool aHE _),trodAll_mk2 (Below.trod acR (by kernel_rfl) (Rt (by kernel_rfl)) af G aaL) (Below.trod acR (by kernel_rfl) (Rt (by kernel_rfl)) H G BA),rfl,G.frame _,fun h=>by cases h⟩
 refine key.mono fun e W' ⟨v,aP,ag⟩=>?_;subst aP;exact ChangeSpec.post_blind ag
end Go.Proofs.YtdhifebhlocikaaGreatDoor
