/- ItemLatest, one part of the proof. -/
import Derived.Test.YtdioggbficfibaaGreatDoorRows
import Derived.ProofKit
import Derived.LaidMore
import Derived.OpenShut
import Derived.Stop.Joined
import Derived.Lay
import Derived.Carry
import Derived.Lib.LaidU8
import Derived.Test.YtdioggbficfibaaGreatDoorP19
import Derived.Test.YtdioggbficfibaaGreatDoorP21
import Derived.Test.YtdioggbficfibaaGreatDoorP22
import Derived.Test.YtdioggbficfibaaGreatDoorP23
set_option linter.all false
set_option maxRecDepth 100000
set_option maxHeartbeats 16000000
namespace Go.Proofs.YtdioggbficfibaaGreatDoor
open Go Go.Proofs.Tryz Go.aJ Go.bS Go.ChangeShapes Go.WideShapes Go.ChangeAt Go.WideMaps Go.WideElems Go.RowKit
theorem aG8:ownKnob prog.godebug=none:=by kernel_rfl
theorem adf:laidOutB prog=true:=by kernel_rfl
abbrev apn:String:=((Rows.itemLatestRow.laid[8]?).map (·.1)).getD ""
abbrev apm:String:=((Rows.itemLatestRow.laid[0]?).map (·.1)).getD ""
theorem aG5:prog.globalNamed apn=some 0:=by kernel_rfl
theorem aG9:(prog.globals[0]?).map (·.type)=some 303:=by kernel_rfl
theorem aG':prog.underlying 303=some (.array 7 3):=by kernel_rfl
theorem aG6:prog.globalNamed apm=some 1:=by kernel_rfl
theorem aG_:(prog.globals[1]?).map (·.type)=some 357:=by kernel_rfl
theorem aHa:prog.underlying 357=some (.array 20 186):=by kernel_rfl
theorem adg:prog.underlying 3=some (.int .i64):=by kernel_rfl
theorem aHc:prog.underlying 186=some (.int .u64):=by kernel_rfl
theorem aHb:prog.underlying 4=some .bool:=by kernel_rfl
theorem U':prog.underlying 22=some (.slice 3):=by kernel_rfl
theorem ade:prog.cellsOf 3=1:=by kernel_rfl
theorem aG4:prog.cellsOf 186=1:=by kernel_rfl
theorem aG1:prog.cellsOf 303=7:=by kernel_rfl
theorem aG2:prog.cellsOf 357=20:=by kernel_rfl
theorem aqn:prog.globals.size=13:=by kernel_rfl
theorem aGY:(((begin prog (fun _ _=>0) default).world.heap[0]?).bind Obj.row?).map (·.2)=some 303:=by kernel_rfl
theorem aGZ:(((begin prog (fun _ _=>0) default).world.heap[1]?).bind Obj.row?).map (·.2)=some 357:=by kernel_rfl
theorem aFt{W:World}{j n:Nat}{t e:TypeId}{kd:IntKind}{cs:List Value}{p:List MemPlace}{zs:List Int}(hu:prog.underlying t=some (.array n e))(aO:prog.underlying e=some (.int kd))(b:prog.cellsOf e=1)(c:prog.cellsOf t=n)(l:zs.length=n) (h:DataW.trod (fun _:TypeId×Value=>()) prog W 0 (fun _=>true) false j t cs=some (.agg (zs.map fun af=>.lit (.int kd af)),p)):cs=zs.map fun af=>Value.int kd af:=by
 obtain⟨aP,m,_,d,g,o,a⟩:=DataW.trod_array hu h;rw[c]at g;rw[b]at a;simp only[tm]at a;have hd:(aP.map (·.1))=zs.map fun af=>.lit (.int kd af):=by have:=hU Prod.fst d;simp only[DataW.agg.injEq]at this;exact this.symm
 apply Rl;intro i;by_cases hi:i<n
 ·have H:=a i hi;have au:i<aP.length:=by omega
  rw[jU au]at H;obtain⟨k,aj,f,_⟩:=DataW.trod_int aO H;have bW:cs[i]? =some (.int kd k):=by
   have:((cs.drop i).take 1)[0]? =some (.int kd k):=by rw[aj];rfl
   rw[oZ,co (by omega),LO]at this;simpa using this
  have cD:(aP.map (·.1))[i]? =some (.lit (.int kd k)):=by rw[n4,jU au,f];rfl
  rw[hd,n4,jU (by omega)]at cD;have a3:(DataW.lit (.int kd (zs[i]'(by omega))):DataW Unit)=.lit (.int kd k):=gQ cD;cases a3;rw[bW,n4,jU (by omega)];rfl
 ·rw[uI (by omega),uI (by simp;omega)]
theorem ang{W:World}(l:W.ShapedOpen prog)(a:laidMetH prog sa W){nm:String}{g n:Nat}{t e:TypeId}{kd:IntKind}{zs:List Int}(k:(nm,(.agg (zs.map fun af=>.lit (.int kd af)):DataW Unit))∈sa)(an:prog.globalNamed nm=some g)(ai:(prog.globals[g]?).map (·.type)=some t)(hu:prog.underlying t=some (.array n e))(aO:prog.underlying e=some (.int kd))(b:prog.cellsOf e=1)(c:prog.cellsOf t=n)(i:zs.length=n)(au:g<13) (A:(((begin prog (fun _ _=>0) default).world.heap[g]?).bind Obj.row?).map (·.2)=some t):∃bb,W.heap[g]? =some (.cells (zs.map fun af=>Value.int kd af).toArray t bb):=by
 have d:laidMet prog sa W:=by rw[asw]at a;exact a
 obtain⟨u,r,cs,s,p,f,q,J,hd⟩:=Lib.laidMet.reads d k;obtain rfl:=gQ (an.symm.trans f);obtain rfl:=gQ (ai.symm.trans q);have m:=aFt hu aO b c i hd;rw[iz]at A;obtain⟨x,h,j⟩:=A;obtain⟨o,H,_⟩:=l.1 g x.1 x.2 (by rw[aqn];exact au) h;rw[j]at H;have e:o=cs:=by simp only[World.var?,an,C1,H,cq]at J;exact J
 refine⟨(0,0),?_⟩;rw[H,e];have:cs=(zs.map fun af=>Value.int kd af).toArray:=by apply aeR.1;rw[m]
 rw[this]
theorem aJ7{W:World}(a:W.ShapedOpen prog)(b:laidMetH prog sa W):F1 W:=
 ang a b (nm:=apn) (zs:=[1,10,100,1000,10000,100000,1000000]) (kd:=.i64) (Ft.2 ⟨8,rfl⟩) aG5 aG9 aG' adg ade aG1 rfl (by omega) aGY
theorem aGT{W:World}(a:W.ShapedOpen prog)(b:laidMetH prog sa W):FS W:=
 ang a b (nm:=apm) (zs:=Lib.pow10Tab) (kd:=.u64) (Ft.2 ⟨0,rfl⟩) aG6 aG_ aHa aHc aG4 aG2 Lib.pow10Tab_length (by omega) aGZ
theorem Yb(b o j:Nat):(⟨b,o,none⟩:Addr).add j=⟨b,o+j,none⟩:=by unfold Addr.add;split<;>simp_all
set_option maxRecDepth 100000 in
theorem aFu{aw:Type}{enc:TypeId×Value→aw}{W:World}{base:Nat}{v:Value}{d:DataW aw}{p:List MemPlace}(J:Value.okWide prog W .any base 22 v)(h:DataW.Trod enc prog W 0 (fun _=>true) true 22 v d p):∃a n c,v=.slice a n c∧kR W a n∧(∀q,a=some q→q.block<W.heap.size)∧n≤maxLen:=by
 obtain⟨a,n,c,rfl⟩:=okWide_slice U' J;refine⟨a,n,c,rfl,?_⟩;obtain⟨x,h⟩:=h;have j:∀q,a=some q→q.spot=none∧q.block<W.heap.size:=fun q g=>by
  subst g;simp only[Value.okWide,U',Cell.okWide,Cell.ok]at J;obtain⟨_,_,_,f,row,cells,u,_⟩:=J;refine⟨f,?_⟩;by_cases au:q.block<W.heap.size
  ·exact au
  ·simp[World.shape?,au]at u
 rcases open_ints U' adg ade h with⟨e,_⟩|⟨q,len,cap,zs,e,_,t,l,k,_,r,_⟩
 ·simp[Value.cells]at e;obtain⟨rfl,rfl,rfl⟩:=e;exact⟨.inl rfl,fun q g=>(by cases g),dx _⟩
 ·simp[Value.cells]at e;obtain⟨rfl,rfl,rfl⟩:=e;obtain⟨f,A⟩:=j q rfl;obtain⟨b,o,w⟩:=q;simp only at f;subst f;refine⟨.inr ⟨b,o,rfl,fun i hi=>⟨zs.getD i 0,?_⟩⟩,fun m s=>(j m s).2,cO t l⟩;have:=r i (by rw[k];simp;omega);rw[Yb]at this;exact this
set_option maxRecDepth 100000 in
theorem aHd(os:Os)(aw:Type)(enc:TypeId×Value→aw):∃(w:World) (tape:Tape) (i:Input),w.os=os∧(w.forCall tape i).Shaped checked.prog∧i.vars=[]∧Input.okWide checked.prog (w.forCall tape i) .any w.heap.size 3 i∧
   ((Rows.itemLatestSpec.pre enc checked.prog f3 [] false (w.forCall tape i).memory i.args∧laidMetH prog sa (w.forCall tape i).memory)∧sizedMet enc checked.prog f3 (OpenSpec.ofChange Rows.itemLatestSpec) false (w.forCall tape i).memory i.args)∧({}:Assume).holds checked.prog (lone (Frame.enter checked.prog 3 i.args .normal) [] (w.forCall tape i)):=
 ChangeSpec.witness_shaped (enc:=enc) (C:=checked) (os:=os) (X:=fun w _=>laidMetH prog sa w) false (World.laidAll prog os sa) #[.slice none 0 0,.slice none 0 0] 8 (World.laidAll_os _ _ _)
  (World.shaped_of_ZipB (aLG os) (aLE os)) (aLC os) (aLD enc os) (aLF enc os)
  (by rw[asw];exact laidMet_laidAll _ (aLA os) (aLB os))
theorem adh:prog.underlying 23=some (.slice 22):=by kernel_rfl
theorem aG3:prog.cellsOf 22=1:=by kernel_rfl
theorem aG0:(((begin prog (fun _ _=>0) default).world.heap[12]?).bind Obj.row?).isSome=true:=by kernel_rfl
theorem aAH{W:World}(b:W.ShapedOpen prog):13≤W.heap.size:=by
 obtain⟨x,a⟩:=atc.1 aG0;obtain⟨c,H,_⟩:=b.1 12 x.1 x.2 (by rw[aqn];omega) a;exact(g6.1 H).1
theorem Gd{W:World}{x:Addr}{cs:List Value}(h:W.cells? 0 x 1=some cs):∃c,cs=[c]∧W.cell? x=some c:=by
 have dC:x.add 0=x:=by simp[Addr.add]
 simp[World.cells?,LV,dC]at h;cases a:W.cell? x with
 |none=>simp[a]at h
 |some c=>simp[a]at h;exact⟨c,h.symm,rfl⟩
set_option maxRecDepth 100000 in
theorem aFr{aw:Type}{enc:TypeId×Value→aw}{W:World}{base:Nat}{v:Value}{d:DataW aw}{p:List MemPlace}(J:Value.okWide prog W .any base 23 v)(h:DataW.Trod enc prog W 0 (fun _=>true) true 23 v d p):∃a n c,v=.slice a n c∧FR W a n:=by
 obtain⟨a,n,c,rfl⟩:=okWide_slice adh J;refine⟨a,n,c,rfl,?_⟩;obtain⟨R,h⟩:=h;have K:∀q,a=some q→q.spot=none∧q.block<W.heap.size:=fun q j=>by
  subst j;simp only[Value.okWide,adh,Cell.okWide,Cell.ok]at J;obtain⟨_,_,_,f,row,cells,F,_⟩:=J;refine⟨f,?_⟩;by_cases au:q.block<W.heap.size
  ·exact au
  ·simp[World.shape?,au]at F
 rcases DataW.trod_slice adh h with⟨l,_⟩|⟨q,len,cap,N,rest,m,_,l,_,_,_,_,P,G,_,_⟩
 ·simp[Value.cells]at l;obtain⟨rfl,rfl,rfl⟩:=l;exact .inl rfl
 ·simp[Value.cells]at l;obtain⟨rfl,rfl,rfl⟩:=l;obtain⟨f,z⟩:=K q rfl;obtain⟨b,o,M⟩:=q;simp only at f;subst f;refine .inr ⟨b,o,rfl,z,fun i hi=>?_⟩;have H:=G i hi;rw[aG3,tm,jU (by omega),Option.bind_eq_some_iff]at H;obtain⟨Q,x,I⟩:=H;rw[Yb]at x;obtain⟨u,rfl,w⟩:=Gd x;rcases open_ints U' adg ade I with⟨aj,_⟩|⟨e,r,y,zs,aj,_,E,A,s,_,t,_⟩
  ·obtain rfl:u=.slice none 0 0:=by injection aj
   exact⟨none,0,0,w,.inl rfl,fun q j=>(by cases j),dx _⟩
  ·obtain rfl:u=.slice (some e) r y:=by injection aj
   have key:0<r→e.spot=none∧e.block<W.heap.size:=fun ae=>by
    have g:=t 0 (by rw[s];simp;omega);rw[show e.add 0=e by simp[Addr.add]]at g;refine⟨?_,Wk W _ g⟩;cases B:e.spot with
    |none=>rfl
    |some k=>
     exfalso;unfold World.cell? at g;rw[B]at g;split at g
     ·simp at g
     ·cases g
   refine⟨some e,r,y,w,?_,fun q j ae=>by cases j;exact(key ae).2,cO E A⟩;by_cases ae:r=0
   ·exact .inl ae
   ·have f:=(key (by omega)).1;obtain⟨C,D,O⟩:=e;simp only at f;subst f;refine .inr ⟨C,D,rfl,fun k L=>⟨zs.getD k 0,?_⟩⟩;have:=t k (by rw[s];simp;omega);rw[Yb]at this;exact this
set_option maxRecDepth 100000 in
theorem aG7(os:Os)(adZ:os.Started)(aw:Type)(enc:TypeId×Value→aw): ReturnsInHanded {} checked os 3 .any (fun w args=>(Rows.itemLatestSpec.pre enc prog f3 [] false w args∧laidMetH prog sa w)∧sizedMet enc prog f3 (OpenSpec.ofChange Rows.itemLatestSpec) false w args) (Rows.itemLatestSpec.post enc prog f3 false true false false):=by
 refine returnsInHanded_of_calls (C:=checked) aG8 adZ (by kernel_rfl) (aHd os aw enc) ?_;intro w tape i _ abp _ sZ jo aOh;obtain⟨_,_,_,ZE,aAU,_,_,_,_,aCk⟩:=sZ;have e:ZE=f3:=gQ (aAU.symm.trans func3);subst e;obtain⟨⟨⟨ds,og,aNn,dV,Q⟩,V⟩,aA⟩:=jo;have Ed:=DataW.Whole.of_heap (w':=w.forCall tape i) (by rfl) dV;have c0:laidMetH prog sa (w.forCall tape i):=V.of_heap (by rfl);have key:Calls checked.prog 3 i.args (w.forCall tape i) fun e W'=>∃v,e=.returned v∧Rows.itemLatestSpec.post enc checked.prog f3 false true false false (w.forCall tape i) i.args v W':=by have cM:=aJ7 abp c0;have e1:=aGT abp c0;have KB:∀(j:Nat) t v,f3.params[j]? =some t→i.args[j]? =some v→Value.okWide prog (w.forCall tape i) .any w.heap.size t v:=aCk;generalize w.forCall tape i=W at*;generalize i.args=args at*;have Ty:=Ed;obtain⟨p,q,Tn,eu,rfl,_,_⟩:=Ed;have cL:DataW.TrodAll enc prog W 0 (fun _=>true) true f3.params.toList args.toList ds p:=Tn;rw[params3]at cL KB;obtain⟨v0,dW,hv,eD,eN,dv,rfl,rfl,rfl,ae,H⟩:=trodAll_two cL;obtain⟨rfl,rfl⟩:=trodVars_none eu;simp only[sf]at Ty;have aa1:∀y∈eN,y.block<W.heap.size:=fun y aB=>Ty.lt y (by simp[aB]);have Ci:∀y∈dv,y.block<W.heap.size:=fun y aB=>Ty.lt y (by simp[aB]);obtain⟨bW,b5,c1,aj,b1,cy,gp⟩:=aFu (KB 0 22 v0 rfl rfl) ae;obtain⟨cD,eK,c2,aF,c9⟩:=aFr (KB 1 23 dW rfl rfl) H;subst aj aF;refine(aDz W cM e1 (aAH abp) bW b5 c1 b1 cy gp cD eK c2 c9).mono fun e W' ⟨aO,A⟩=>?_;have aO:e=.returned (.bool true):=aO;subst aO;exact⟨_,rfl,_,_,_,[],_,[],Ty,trodAll_mk1 (shut_bool aHb _),trodAll_mk2 (Below.trod adf (by kernel_rfl) (LZ (by kernel_rfl)) ae A aa1) (Below.trod adf (by kernel_rfl) (LZ (by kernel_rfl)) H A Ci),rfl,A.frame _,fun h=>by cases h⟩
 refine key.mono fun e W' ⟨v,aO,ag⟩=>?_;subst aO;exact ChangeSpec.post_blind ag
end Go.Proofs.YtdioggbficfibaaGreatDoor
