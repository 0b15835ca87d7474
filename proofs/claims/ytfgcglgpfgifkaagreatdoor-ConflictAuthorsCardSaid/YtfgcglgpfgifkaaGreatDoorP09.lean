/- ConflictAuthors. -/
import Derived.Test.YtfgcglgpfgifkaaGreatDoorP08
set_option linter.all false
set_option maxRecDepth 100000
set_option maxHeartbeats 16000000
namespace Go.bj.N
open Go Go.Proofs.Tryz Go.ch Go.Proofs Go.c0 Go.aI
def zg:K:=.slice 20 0 1 3 none
def mZ:lQ:=[(13,.aC 9 [.str [99,111,100,101],.str [112,114,105,99,101],.str [110,97,109,101]]),(16,.aC 44 [.int .i64 (.ofNat 1),.str [65],.int .i64 (.ofNat 0),.int .i64 (.ofNat 0),.int .i64 (.ofNat 0),.bS,.bS,.int .i64 (.ofNat 2),.str [],.int .i64 (.ofNat 25),.int .i64 (.ofNat 1),.int .i64 (.ofNat 0),.bS,.bS,.int .i64 (.ofNat 1),.str [97,112,112,108,101],.int .i64 (.ofNat 0),.int .i64 (.ofNat 0),.int .i64 (.ofNat 0),.bS,.bS]),(17,.aC 44 [.int .i64 (.ofNat 1),.str [66],.int .i64 (.ofNat 0),.int .i64 (.ofNat 0),.int .i64 (.ofNat 0),.bS,.bS,.int .i64 (.ofNat 2),.str [],.int .i64 (.ofNat 3),.int .i64 (.ofNat 0),.int .i64 (.ofNat 0),.bS,.bS,.int .i64 (.ofNat 1),.str [98,114,101,97,100],.int .i64 (.ofNat 0),.int .i64 (.ofNat 0),.int .i64 (.ofNat 0),.bS,.bS]),(18,.aC 45 [.slice 16 0 3 7 none,.slice 17 0 3 7 none]),(20,.aC 96 [.str [112,114,105,99,101,115],.slice 13 0 3 1 none,.slice 18 0 2 1 none])]
def l5:cO:=⟨⟨#[116,101,120,116,115]⟩,1,[(⟨#[97]⟩,1),(⟨#[98]⟩,1)],[(⟨#[84]⟩,1),(⟨#[85]⟩,1)],[⟨0,⟨#[99,111,108]⟩,⟨#[97]⟩,[]⟩,⟨0,⟨#[99,111,108]⟩,⟨#[98]⟩,[]⟩,⟨0,⟨#[99,111,110,99,97,116]⟩,⟨#[]⟩,[1,0]⟩,⟨0,⟨#[117,112,112,101,114]⟩,⟨#[]⟩,[1]⟩,⟨1,⟨#[99,111,108]⟩,⟨#[97]⟩,[]⟩,⟨1,⟨#[116,101,120,116]⟩,⟨#[45]⟩,[]⟩,⟨1,⟨#[101,120,116,114,97,99,116]⟩,⟨#[92,100,43,35,49]⟩,[1]⟩],0,[[0,2,2,6,10,22],[0,2,2,2,2,2]]⟩
def l6:cO:=⟨⟨#[110,117,109,98,101,114,115]⟩,1,[(⟨#[110]⟩,2),(⟨#[109]⟩,2)],[(⟨#[78]⟩,2),(⟨#[77]⟩,2)],[⟨0,⟨#[99,111,108]⟩,⟨#[110]⟩,[]⟩,⟨0,⟨#[99,111,108]⟩,⟨#[109]⟩,[]⟩,⟨0,⟨#[97,100,100]⟩,⟨#[]⟩,[1,0]⟩,⟨0,⟨#[109,117,108]⟩,⟨#[]⟩,[0,1]⟩,⟨1,⟨#[110,117,109,98,101,114]⟩,⟨#[50]⟩,[]⟩,⟨1,⟨#[99,111,108]⟩,⟨#[109]⟩,[]⟩,⟨1,⟨#[114,111,117,110,100]⟩,⟨#[49]⟩,[1]⟩],0,[[0,2,0,8,8,40],[0,2,2,2,2,2]]⟩
def lN:cO:=⟨⟨#[100,97,116,101,115]⟩,1,[(⟨#[100]⟩,3),(⟨#[101]⟩,3),(⟨#[110]⟩,2)],[(⟨#[68]⟩,3),(⟨#[78]⟩,2),(⟨#[69]⟩,3)],[⟨0,⟨#[99,111,108]⟩,⟨#[100]⟩,[]⟩,⟨0,⟨#[100,97,121,115]⟩,⟨#[]⟩,[0,1]⟩,⟨1,⟨#[99,111,108]⟩,⟨#[110]⟩,[]⟩,⟨1,⟨#[110,117,109,98,101,114]⟩,⟨#[55]⟩,[]⟩,⟨1,⟨#[98,101,116,119,101,101,110]⟩,⟨#[]⟩,[2,2]⟩,⟨2,⟨#[99,111,108]⟩,⟨#[100]⟩,[]⟩,⟨2,⟨#[99,111,108]⟩,⟨#[101]⟩,[]⟩],0,[[0,1,0,2,0,8],[0,2,0,4,0,0],[0,2,0,0,0,0]]⟩
def nd:cO:=⟨⟨#[108,111,111,107,117,112,115]⟩,1,[(⟨#[99,111,100,101]⟩,1),(⟨#[110]⟩,2)],[(⟨#[78]⟩,2),(⟨#[84]⟩,1)],[⟨0,⟨#[108,111,111,107,117,112]⟩,⟨#[112,114,105,99,101,115,46,99,111,100,101,46,112,114,105,99,101,58,110,117,109,98,101,114]⟩,[1]⟩,⟨0,⟨#[99,111,108]⟩,⟨#[110]⟩,[]⟩,⟨0,⟨#[109,117,108]⟩,⟨#[]⟩,[0,0]⟩,⟨1,⟨#[99,111,108]⟩,⟨#[99,111,100,101]⟩,[]⟩,⟨1,⟨#[117,112,112,101,114]⟩,⟨#[]⟩,[1]⟩,⟨1,⟨#[116,101,120,116]⟩,⟨#[65]⟩,[]⟩],0,[[0,1,2,3,6,12],[0,2,2,2,2,2]]⟩
def kD:cO:=⟨⟨#[99,104,111,105,99,101,115]⟩,1,[(⟨#[115]⟩,1),(⟨#[110]⟩,2)],[(⟨#[84]⟩,1),(⟨#[66]⟩,4),(⟨#[78]⟩,2),(⟨#[67]⟩,1)],[⟨0,⟨#[99,111,108]⟩,⟨#[115]⟩,[]⟩,⟨0,⟨#[116,101,120,116]⟩,⟨#[108,111,119]⟩,[]⟩,⟨0,⟨#[105,102]⟩,⟨#[116,101,120,116]⟩,[1,3,0]⟩,⟨1,⟨#[108,101,115,115]⟩,⟨#[]⟩,[2,2]⟩,⟨1,⟨#[109,97,116,99,104]⟩,⟨#[92,117,43]⟩,[3]⟩,⟨2,⟨#[99,111,108]⟩,⟨#[110]⟩,[]⟩,⟨2,⟨#[110,117,109,98,101,114]⟩,⟨#[49,48]⟩,[]⟩,⟨3,⟨#[99,111,108]⟩,⟨#[115]⟩,[]⟩,⟨3,⟨#[116,101,120,116]⟩,⟨#[104,105,103,104]⟩,[]⟩],0,[[0,2,0,0,0,8],[0,0,2,4,0,0],[0,2,0,0,0,0],[0,2,0,0,0,0]]⟩
def ml:cO:=⟨⟨#[116,97,98,108,101,115]⟩,1,[(⟨#[105,116,101,109,115]⟩,5),(⟨#[107]⟩,1)],[(⟨#[78]⟩,2),(⟨#[88]⟩,5),(⟨#[84]⟩,1)],[⟨0,⟨#[115,117,109]⟩,⟨#[97,109,111,117,110,116,62,61,48]⟩,[1]⟩,⟨0,⟨#[99,111,117,110,116]⟩,⟨#[]⟩,[1]⟩,⟨0,⟨#[97,100,100]⟩,⟨#[]⟩,[0,0]⟩,⟨1,⟨#[99,111,108]⟩,⟨#[105,116,101,109,115]⟩,[]⟩,⟨1,⟨#[119,104,101,114,101]⟩,⟨#[107,105,110,100]⟩,[1,2]⟩,⟨2,⟨#[99,111,108]⟩,⟨#[107]⟩,[]⟩,⟨2,⟨#[116,101,120,116]⟩,⟨#[97]⟩,[]⟩],0,[[0,0,2,0,4,4],[0,1,0,2,0,4],[0,2,0,0,0,0]]⟩
def alR(b:Nat)(r:bA):Bool:=Nat.blt r.h b&&Nat.ble r.args.length 3&&r.args.all (fun a=>Nat.blt a b)&&Nat.ble r.op.size 60&&Nat.ble r.aF.size 60
def amm(S:cO):Bool:=Nat.ble S.bo.size 60&&Nat.ble S.cZ 1000000000&&Nat.blt 0 S.bs.length&&Nat.ble S.bs.length 8&&S.bs.all (fun c=>Nat.ble c.1.size 60)&&Nat.blt 0 S.aB.length&&Nat.ble S.aB.length 12&&S.aB.all (fun c=>Nat.ble c.1.size 60)&&Nat.ble S.c8.length 40&&Nat.blt S.aj S.aB.length&&XN S.bD S.c8&&S.c8.all (alR S.aB.length)
theorem Hw{S:cO}(h:amm S=true):qb S:=by
 simp only[amm,dz]at h;obtain⟨⟨⟨⟨⟨⟨⟨⟨⟨⟨⟨H,I⟩,j⟩,g⟩,o⟩,x⟩,w⟩,u⟩,A⟩,z⟩,d⟩,y⟩:=h;have k:∀n,n<=60->n<=maxLen:=fun n l=>db l ai;refine⟨k _ (by simpa using H),by simpa using I,by simpa using j,by simpa using g,fun c b=>k _ (by simpa using hs.1 o c b),by simpa using x,by simpa using w,fun c b=>k _ (by simpa using hs.1 u c b),by simpa using A,by simpa using z,ay1 d,fun r e=>?_⟩;have:=hs.1 y r e;simp only[alR,dz]at this;obtain⟨⟨⟨⟨i,q⟩,m⟩,s⟩,t⟩:=this;exact⟨by simpa using i,by simpa using q,fun a f=>by simpa using hs.1 m a f,k _ (by simpa using s),k _ (by simpa using t)⟩
def cn(n:Nat):cO:=if n=0 then l5 else if n=1 then l6 else if n=2 then lN else if n=3 then nd else if n=4 then kD else ml
theorem aCq:qb l5:=Hw au
theorem aCr:qb l6:=Hw au
theorem aCs:qb lN:=Hw au
theorem aCt:qb nd:=Hw au
theorem aCu:qb kD:=Hw au
theorem aCv:qb ml:=Hw au
theorem Ml(n:Nat):qb (cn n):=by
 unfold cn;split
 ·exact aCq
 split
 ·exact aCr
 split
 ·exact aCs
 split
 ·exact aCt
 split
 ·exact aCu
 ·exact aCv
def om(s:ByteArray):K:=.str (s.data.toList.map UInt8.toNat)
def q3:List (ByteArray×Nat)->List K
 |[]=>[]
 |c::l=>om c.1::.int .i64 (.ofNat c.2)::q3 l
def aia:K->Bool
 |.int .i64 _=>true
 |_=>false
def WX(h:ay):K->Bool
 |.bS=>true
 |.slice b 0 l 1 _=>Nat.ble l 100&&(match h.cK b with|some (.cells _ vs _ _)=>Nat.ble l vs.length&&(vs.take l).all aia|_=>false)
 |_=>false
def amX(l:lQ)(x:Option (K×ay)):Bool:=match x with
 |some (.tup [a,.int .i64 _,.int .i64 _],h)=>pH h l&&WX h a
 |_=>false
def ux(S:cO):lQ:=mZ++[(21,.aC 138 (q3 S.bs))]
noncomputable def aan(S:cO)(r:bA):Option (K×ay):=(iC prog i_ jY.find 300).call 85 [om r.op,om r.aF,zg,.slice 21 0 S.bs.length 2 none] (gU ⟨.e,22⟩ (ux S))
noncomputable def yu(S:cO):Bool:=S.c8.all fun r=>amX (ux S) (aan S r)
def adJ(x:Option (K×ay)):Bool:=match x with
 |some (v,h)=>K.beq v zg&&Nat.beq h.nx 21&&Hq h mZ
 |none=>false
theorem aDQ:yu l5=true:=au
theorem aq7:adJ ((iC prog i_ jY.find 300).call 19 [.bS] (gU ⟨.e,13⟩ []))=true:=au
end Go.bj.N
namespace Go.bj.N
open Go Go.ch Go.Proofs Go.c0 Go.aI
theorem aDR:yu l6=true:=au
theorem aDS:yu lN=true:=au
theorem aDT:yu nd=true:=au
theorem aDU:yu kD=true:=au
theorem aDV:yu ml=true:=au
end Go.bj.N
namespace Go.bj.N
open Go Go.Proofs.Tryz Go.ch Go.Proofs Go.RowKit Go.c0 Go.aI
def nc:bl:=fun g=>if g<13 then some ⟨g,0,0⟩else none
theorem EB(l:Nat->Option Loop)(ae:Nat->Nat×Nat)(t:Nat->Array Value):∃ρ:b4,ρ.nC=l/\ρ.bg=ae/\ρ.ys=t:=⟨⟨fun _=>undef,l,ae,t⟩,rfl,rfl,rfl⟩
theorem aEB(n:Nat):yu (cn n)=true:=by
 unfold cn;split
 ·exact aDQ
 split
 ·exact aDR
 split
 ·exact aDS
 split
 ·exact aDT
 split
 ·exact aDU
 ·exact aDV
def lq(w:World)(v:Value):Prop:=∃(ρ:b4) (σ:bl) (h:ay),ρ.nC=mK prog/\jE prog σ/\c6 ρ σ h w/\h.nx=21/\Hq h mZ=true/\aE ρ σ zg=some v
theorem lq.U{w w':World}{v:Value}(h:lq w v)(A:Below w.heap.size w w'):lq w' v:=by
 obtain⟨ρ,σ,h,H,I,b,a⟩:=h;exact⟨ρ,σ,h,H,I,b.U A,a⟩
theorem zl(ρ:b4)(σ:bl)(s:ByteArray):aE ρ σ (om s)=some (.string s):=by
 have H:(s.data.toList.map UInt8.toNat).all (fun n=>decide (n<256))=true:=by simp only[hs,yQ,R0];rintro x ⟨c,_,rfl⟩;exact M4 c
 have I:fz (s.data.toList.map UInt8.toNat)=s:=by
  cases s with
  |mk d=>
   simp only[fz,HV];have:(UInt8.ofNat∘UInt8.toNat)=id:=by funext x;simp
   simp[this]
 simp only[om,aE];rw[cv H,I]
def uR:List (ByteArray×Nat)->List Value
 |[]=>[]
 |c::l=>.string c.1::.int .i64 c.2::uR l
theorem aek(ρ:b4)(σ:bl):∀cs,bU ρ σ (q3 cs)=some (uR cs)
 |[]=>by simp[q3,uR,bU]
 |c::l=>by simp[q3,uR,bU,zl,aE,aek ρ σ l]
theorem aeg{arr:Array Value}:∀(cs:List (ByteArray×Nat)) (o:Nat),(∀i (hi:i<cs.length),arr[o+i*2]? =some (.string cs[i].1)/\arr[o+i*2+1]? =some (.int .i64 cs[i].2))->∀i,i<(uR cs).length->arr[o+i]? =(uR cs)[i]?
 |[],o,h,i,hi=>by simp[uR]at hi
 |c::l,o,h,i,hi=>by
  match i with
  |0=>have ab:=(h 0 (Ax _)).1;simp only[tw,hG]at ab⊢;exact ab
  |1=>have ab:=(h 0 (Ax _)).2;simp only[tw,hG]at ab⊢;exact ab
  |i+2=>
   have b:=aeg l (o+2) (fun j a=>by
    have:=h (j+1) (by simpa using a)
    simp only[E1]at this
    rw[show o+2+j*2=o+(j+1)*2 by omega]
    exact this) i (by simp[uR]at hi;omega)
   rw[show o+(i+2)=o+2+i by omega,b]
   simp[uR]
theorem aef:∀cs,(q3 cs).length=(uR cs).length
 |[]=>rfl
 |c::l=>by simp[q3,uR,aef l]
def aqa(e:Ending)(w':World):Prop:=∃a h7 ac k b,e=.returned (.tuple #[.slice a h7 ac,.int .i64 k,.int .i64 b])/\AR w' a h7
theorem axk{ρ:b4}{σ:bl}{h:ay}{w:World}{a:K}{c:Value}(hi:WX h a=true)(y:c6 ρ σ h w)(d:aE ρ σ a=some c):∃g h7 ac,c=.slice g h7 ac/\AR w g h7:=by
 unfold WX at hi;split at hi
 ·simp only[aE,cb]at d;subst d;exact⟨none,0,0,rfl,z,fun h=>z⟩
 ·rename_i b l cap;simp only[aE,ig]at d;obtain⟨p,ag,rfl⟩:=d;simp only[dz]at hi;obtain⟨H,I⟩:=hi;have H:l<=100:=by simpa using H
  split at I
  ·rename_i e vs t wr A;simp only[dz]at I;obtain⟨I,r⟩:=I;have I:l<=vs.length:=by simpa using I
   obtain⟨q,arr,bg,cs,s,o,E,D,F,B,C,_⟩:=y.cells A;obtain rfl:p=q:=gn (ag.symm.trans s);refine⟨_,_,_,rfl,z,fun _=>⟨p.aU,p.dA+0,rfl,(hl.1 o).1,fun i hi=>?_⟩⟩;have aq:i<vs.length:=z;have J:aia vs[i]=true:=hs.1 r _ (by
    rw[HW]
    exact⟨i,by rw[oS,cv hi];simp[aq]⟩)
   obtain⟨x,m,f⟩:=xy B (i:=i) (v:=vs[i]) (by simp[aq]);have j:=C i aq;rw[m]at j;generalize vs[i]=u at J f;cases u with
   |int k n=>
    cases k with
    |i64=>simp only[aE,cb]at f;subst f;exact⟨n,by rw[hG];exact j⟩
    |_=>cases J
   |_=>cases J
  ·cases I
 ·cases hi
theorem afi:i_ 85=none:=au
theorem atn:i_ 19=none:=au
theorem atk:i_ 10=none:=au
theorem EH:n7 mZ=true:=au
def ay8(l:lQ):Bool:=l.all fun p=>match p.2 with|.aC e _=> !(Nat.beq e 138)|_=>false
theorem ay9:ay8 mZ=true:=au
theorem amh{a b:lQ}(H:n7 a=true)(I:n7 b=true):n7 (a++b)=true:=by
 simp only[n7,List.all_append,dz];exact⟨H,I⟩
theorem aEC(S:cO)(K:yu S=true)(r:bA)(u:r∈S.c8)(w:World)(bp:Value)(ca:Option Addr)(cc:Nat)(F:lq w bp)(G:iM w ca S.bs): Calls prog 85 #[.string r.op,.string r.aF,bp,.slice ca S.bs.length cc] w fun e w'=>aqa e w'/\Below w.heap.size w w':=by
 obtain⟨ρ,σ,h,M,C,bw,V,qq,Gw⟩:=F;obtain⟨ed,o,arr,bg,rfl,l0,L⟩:=G;have kh:∀b,21<=b->σ b=none:=fun b A=>bw.jy b z;have E:∀b p,σ b=some p->b≠21:=fun b p A e=>by rw[e,kh 21 z]at A;cases A
 obtain⟨j1,x8⟩:∃j1:bl,j1=fun b=>if b=21 then some ⟨ed,o,2*cc⟩else σ b:=⟨_,rfl⟩
 have X:ke σ j1:=fun b p A=>by rw[x8];simp only;rw[bn (E b p A)];exact A
 have Kg:j1 21=some ⟨ed,o,2*cc⟩:=by rw[x8];simp
 have j':n7 (ux S)=true:=amh EH (by simp[n7,en]);have m:AZ (ux S)=true:=by exact aj0
 have base:∀b x,(b,x)∈mZ->∃p e vs,x=.aC e vs/\σ b=some p/\e≠138/\(∃arr bg,w.heap[p.aU]? =some (.cells arr e bg))/\io (ρ.at w) σ p w.heap[p.aU]? (.aC e vs):=fun b x an=>by exact ajK
 have oI:∀b x,(gU ⟨.e,22⟩ (ux S)).cK b=some x->(b,x)∈mZ∨(b=21/\x=.aC 138 (q3 S.bs)):=fun b x A=>by exact ajE
 have VR:mB w ed=arr:=by simp[mB,l0]
 have xV:pF w ed=bg:=by simp[pF,l0]
 have s:c6 (ρ.at w) j1 (gU ⟨.e,22⟩ (ux S)) w:=by exact ajS
 have Q:jE prog j1:=fun g T=>by obtain⟨n,D⟩:=C g T;exact⟨n,X _ _ D⟩
 have N:bU (ρ.at w) j1 [om r.op,om r.aF,zg,.slice 21 0 S.bs.length 2 none]=some [.string r.op,.string r.aF,bp,.slice (some ⟨ed,o,none⟩) S.bs.length cc]:=by exact ai0
 have d:=hs.1 K r u;unfold amX at d;split at d
 ·rename_i a k R U P;simp only[dz]at d;refine(ym follows (ρ:=ρ.at w) M (lp.sY vC) wk afi Q N j' m s P d.1).mono ?_;rintro e w' ⟨c,σ',rfl,j⟩;refine⟨?_,j.b⟩;have J:=j.v;simp only[aE,ig]at J;obtain⟨x,f,rfl⟩:=J;simp only[bU]at f;cases l:aE (ρ.at w) σ' a with
  |none=>rw[l]at f;simp at f
  |some y=>rw[l]at f;simp only[aE,cb]at f;subst f;obtain⟨B,h7,ac,rfl,O⟩:=axk d.2 j.h l;exact⟨B,h7,ac,k,R,rfl,O⟩
 ·cases d
theorem adK(w:World)(s:13<=w.heap.size):Calls prog 19 #[.slice none 0 0] w fun e w'=>(∃v,e=.returned v/\lq w' v)/\Below w.heap.size w w':=by
 obtain⟨ρ,i,_⟩:=EB (mK prog) (fun _=>(0,0)) (fun _=>#[]);have a:jE prog nc:=fun g a=>⟨0,by
  have:prog.globals.size=13:=au
  rw[this]at a
  simp[nc,a]⟩
 have q:c6 ρ nc (gU ⟨.e,13⟩ []) w:=by exact Xq
 have d:=aq7;unfold adJ at d;split at d
 ·rename_i v o j;simp only[dz]at d;obtain⟨⟨H,I⟩,k⟩:=d;have H:=K.beq_eq H;subst H;refine(ym follows (ρ:=ρ) i (lp.sY vC) wk atn a (args:=[.bS]) (cs:=[.slice none 0 0]) rfl (l:=[]) rfl rfl q j rfl).mono ?_;rintro e w' ⟨c,σ',rfl,f⟩;exact⟨⟨c,rfl,ρ,σ',o,i,fun g r=>by obtain⟨n,m⟩:=a g r;exact⟨n,f.ext _ _ m⟩,f.h,gV I,k,f.v⟩,f.b⟩
 ·cases d
end Go.bj.N
namespace Go.b3
open Go Go.Proofs.Tryz Go.ch Go.Proofs Go.RowKit Go.aI
open Go.bj.N (nc EB)
theorem afF:prog.globals.size=13:=au
theorem aBg(w:World)(b o tot t:Nat)(arr:Array Value)(bg:Nat×Nat)(j:w.heap[b]? =some (.cells arr t bg))(vs:List K)(d:List Value)(l:∀ρ σ,bU ρ σ vs=some d)(s:n7 [(13,em.aC t vs)]=true)(B:∀i,i<vs.length->arr[o+i]? =d[i]?):∃(ρ:b4) (σ:bl),ρ.nC=mK prog/\jE prog σ/\c6 ρ σ (gU ⟨.e,14⟩ [(13,em.aC t vs)]) w/\σ 13=some ⟨b,o,tot⟩:=by
 obtain⟨m,r,_⟩:=EB (mK prog) (fun _=>(0,0)) (fun _=>#[]);obtain⟨c,e⟩:∃c:bl,c=fun x=>if x=13 then some ⟨b,o,tot⟩else nc x:=⟨_,rfl⟩
 have f:c 13=some ⟨b,o,tot⟩:=by rw[e];simp
 have oI:∀x y,(gU ⟨.e,14⟩ [(13,em.aC t vs)]).cK x=some y->x=13/\y=.aC t vs:=fun x y a=>by have H:=yi s a;simp only[Cs,g9]at H;exact H
 refine⟨m.at w,c,r,fun g k=>⟨0,by rw[afF]at k;rw[e];simp only;rw[bn z];simp[nc,k]⟩,⟨fun x y a=>?_,fun x q y A p C a u ag D n=>?_,fun x a=>?_⟩,f⟩
 ·obtain⟨rfl,rfl⟩:=oI x y a;refine⟨_,f,d,l _ _,?_,fun i hi=>?_⟩
  ·show w.heap[b]? =some (Obj.cells (mB w b) t (pF w b));simp[mB,pF,j]
  ·show(mB w b)[o+i]? =_;simp only[mB,j];exact B i hi
 ·obtain⟨rfl,_⟩:=oI x y a;obtain⟨rfl,_⟩:=oI q A u;exact absurd rfl n
 ·rw[B0]at a;have a:14<=x:=a;rw[e];simp only;rw[bn z];unfold nc;rw[bn z]
def BY(cl:Nat):List K:=[.int .i64 (.ofNat cl),.int .i64 (.ofNat 1),.int .i64 (.ofNat 200),.str []]
def N4(l:lQ)(x:Option (K×ay)):Bool:=match x with
 |some (.bool _,h)=>pH h l
 |_=>false
theorem atp:i_ 486=none:=au
theorem aAN:N4 [(13,.aC 403 (BY 1))] ((iC prog i_ jY.find 300).call 486 [.slice 13 0 1 4 none] (gU ⟨.e,14⟩ [(13,.aC 403 (BY 1))]))=true:=au
theorem aAO:N4 [(13,.aC 403 (BY 2))] ((iC prog i_ jY.find 300).call 486 [.slice 13 0 1 4 none] (gU ⟨.e,14⟩ [(13,.aC 403 (BY 2))]))=true:=au
theorem alH(n:Nat)(a:N4 [(13,.aC 403 (BY n))] ((iC prog i_ jY.find 300).call 486 [.slice 13 0 1 4 none] (gU ⟨.e,14⟩ [(13,.aC 403 (BY n))]))=true)(w:World)(aF:Option Addr)(d:Nat)(ag:rP w aF (n:Int)): Calls prog 486 #[.slice aF 1 d] w fun e w'=>Ij e/\Below w.heap.size w w':=by
 obtain⟨b,o,arr,bg,rfl,q,ab,H,I,h⟩:=ag;obtain⟨ρ,σ,l,j,k,g⟩:=aBg w b o (4*d) 403 arr bg q (BY n) [.int .i64 n,.int .i64 1,.int .i64 200,.string ⟨#[]⟩] (fun ρ σ=>by simp[BY,bU,aE,fz]) (by simp[n7,en]) (fun i hi=>by
  have hi:i<4:=hi
  match i with
  |0=>exact ab
  |1=>exact H
  |2=>exact I
  |3=>exact h)
 have m:bU ρ σ [.slice 13 0 1 4 none]=some [.slice (some ⟨b,o,none⟩) 1 d]:=by simp only[bU,aE,g,ob,i9];simp
 unfold N4 at a;split at a
 ·rename_i r s p;refine(ym follows (ρ:=ρ) l (lp.sY vC) wk atp j m (by simp[n7,en]) (by simp[AZ,em.PP]) k p a).mono ?_;rintro e w' ⟨c,σ',rfl,f⟩;have J:=f.v;simp only[aE,cb]at J;exact⟨⟨_,by rw[←J]⟩,f.b⟩
 ·cases a
theorem alG(cl:Int)(b:cl=1∨cl=2)(w:World)(aF:Option Addr)(a:Nat)(ag:rP w aF cl): Calls prog 486 #[.slice aF 1 a] w fun e w'=>Ij e/\Below w.heap.size w w':=by
 rcases b with rfl|rfl
 ·exact alH 1 aAN w aF a ag
 ·exact alH 2 aAO w aF a ag
end Go.b3
namespace Go.b3
open Go Go.Proofs.Tryz Go.Proofs Go.RowKit Go.Lib Go.aI
def Ih(m:Nat)(aK:List Value):Prop:=0<aK.length->∃(x y:Nat) (l:List Value),aK=.int .i64 x::.int .i64 y::l/\x<=y/\y<=m
theorem Ih.push{m x y:Nat}{aK:List Value}(h:Ih m aK)(c:x<=y)(d:y<=m):Ih m (aK++[.int .i64 x,.int .i64 y]):=fun _=>by
 by_cases ab:0<aK.length
 ·obtain⟨a,b,l,rfl,H,I⟩:=h ab
  exact⟨a,b,l++[.int .i64 x,.int .i64 y],rfl,H,I⟩
 ·have:aK=[]:=yK z
  subst this
  exact⟨x,y,[],rfl,c,d⟩
def apR(base m:Nat)(e:Ending)(w':World):Prop:=∃v n aK,e=.returned v/\w'.ownsRow base 3 1 v n aK/\Ih m aK/\n<=1000
theorem akS{w:World}{base:Nat}{e:TypeId}{size:Nat}{v:Value}{n:Nat}{aK:List Value}(h:w.ownsRow base e size v n aK):∃a c,v=.slice a n c:=by
 rcases h.2 with⟨b,d⟩|⟨i,cap,g,ak,f,_⟩
 ·rw[d];exact⟨_,_,b⟩
 ·exact⟨_,_,ak⟩
theorem az4{w:World}{base:Nat}{e:TypeId}{size:Nat}{v:Value}{n:Nat}{aK:List Value}(h:w.ownsRow base e size v n aK):∀b,v.ownBlock=some b->base<=b:=fun b A=>by
 rcases h.2 with⟨c,_⟩|⟨i,cap,g,ak,a,d,f⟩
 ·subst c;simp[Value.ownBlock]at A
 ·subst ak;simp[Value.ownBlock]at A;subst A;exact a
theorem atC(s:ByteArray)(D:s.size<=200)(aF:Option Addr)(j:Nat)(cl:Int)(u:cl=1∨cl=2)(w:World)(ag:rP w aF cl): Calls prog 571 #[.slice aF 1 j,.string s] w fun e w'=>apR w.heap.size s.size e w'/\Below w.heap.size w w':=by
 obtain⟨i3,Q,O,P,N⟩:=jt PL;have X:=G (alG cl u w aF j ag);have U:=G fun W=>aic s D W;have h6:=G fun W (S:Below w.heap.size w W) fr (kh:fr<=s.size)=>ae3 s D aF j cl u fr kh W (ag.U S);have gx:(s.size:Int)<=200:=z;clear ag u;go_enter func571,ntmps571
 go_wp2_with (first
  |(go_at_call 486;refine(X.out).mono ?_;rintro e ap ⟨⟨T,rfl⟩,E⟩;have y:=G E;clear E;cases T)
  |(go_at_call 270;refine(U.out _).mono ?_;rintro e ao ⟨⟨dt,rfl⟩,rfl⟩;cases dt))
 all_goals first
  |(go_ret;exact⟨⟨_,0,[],rfl,mo _ _ _ _,fun h=>absurd h am,z⟩,y.out⟩)
  |skip
 go_loopw [5,6,7,8] (fun out md l c wr=>∃(k n:Nat) (aK:List Value),k<=s.size/\md=.int .i64 k/\n<=2*k/\wr.ownsRow w.heap.size 3 1 out n aK/\Ih s.size aK/\Below w.heap.size w wr) (fun _ i _ _ _=>s.size-(RowKit.intOf i).toNat);case atStart=>exact⟨0,0,[],dq _,rfl,z,mo _ _ _ _,fun h=>absurd h am,y.out⟩
 case round=>
  clear y;obtain⟨k,n,aK,ab,rfl,aw,q,t,A⟩:=hrel;by_cases aq:k<s.size
  ·have mj:(k:Int)<s.size:=z;have lj:(0:Int)<=(k:Int):=z;have J:=G q;have d:=G t;have r:=G A;clear q t A
   go_wp2_with (go_at_call 572;refine(h6.out _ r.out k z).mono ?_;rintro e V ⟨⟨g,rfl,I⟩,o⟩);have f:=G (b_ r.out o);have a:=G (n2 J.out (.g0 o));have K:=G I;clear o r J I;go_loopw [8] (fun c Y=>∃m:Nat,k<=m/\m<=s.size/\c=.int .i64 m/\Y=V) (fun c _=>(RowKit.intOf c).toNat);case atStart=>exact⟨s.size,z,aZ _,rfl,rfl⟩
   case round=>
    obtain⟨m,ae,H,rfl,rfl⟩:=hrel;have gh:(0:Int)<=(m:Int):=z;have ia:(m:Int)<(s.size:Int)+1:=z;have LC:(m:Int)<=200:=z;by_cases ql:k<m
    ·have na:(k:Int)<m:=z;obtain⟨x,ad⟩:=K.out.2.1 m z;have aa:=K.out.1;have F:(m:Int)-1=((m-1:Nat):Int):=z;cases x
     ·go_wp2;go_roundw;case rel=>first|exact⟨m-1,z,z,by first|rfl|rw[F],by trivial⟩|((repeat apply Exists.intro);refine⟨?_,rfl⟩;exact⟨m-1,z,z,by first|rfl|rw[F],by trivial⟩)
      case measure=>simp[RowKit.intOf];omega
     ·obtain⟨va,Z,rfl⟩:=akS a.out;have m4:=f.out.size
      go_wp2_with (at_builtin;refine lP _ rfl _ _ 22 rfl w.heap.size 3 i3 _ 1 8 underlying22 Q O P N rfl ai (.slice va n Z) n aK rfl (a.out.alloc _) ⟨wr.heap.size,0,none⟩ 2 2 [.int .i64 k,.int .i64 m] rfl rfl (sy (p1 wr _)) (by simp[Value.oneCell']) (by unfold maxLen;omega) z bu ?_;intro v5 R M B _;have C:=G M;have L:Hid (Below w.heap.size w R):=G ((f.out.alloc m4 _).grown B bu (fun b A=>az4 a.out b A));clear M B);go_roundw;case rel=>first|exact⟨m,n+2,_,z,rfl,z,C.out,d.out.push z H,L.out⟩|((repeat apply Exists.intro);refine⟨?_,rfl⟩;exact⟨m,n+2,_,z,rfl,z,C.out,d.out.push z H,L.out⟩)
      case measure=>simp[RowKit.intOf];omega
    ·have na:¬(k:Int)<m:=z
     go_wp2;go_roundw;case rel=>first|exact⟨k+1,n,aK,z,bM,z,a.out,d.out,f.out⟩|((repeat apply Exists.intro);refine⟨?_,rfl⟩;exact⟨k+1,n,aK,z,bM,z,a.out,d.out,f.out⟩)
     case measure=>simp[RowKit.intOf];omega
  ·have mj:¬(k:Int)<s.size:=z
   go_wp2;go_ret;exact⟨⟨_,n,aK,rfl,q,t,z⟩,A⟩
def apQ(m:Nat)(e:Ending):Prop:=∃(x y:Nat) (ok:Bool),e=.returned (.tuple #[.int .i64 x,.int .i64 y,.bool ok])/\(ok=true->x<=y/\y<=m)
theorem atz(s:ByteArray)(m:s.size<=200)(aF:Option Addr)(c:Nat)(cl:Int)(j:cl=1∨cl=2)(w:World)(ag:rP w aF cl): Calls prog 492 #[.slice aF 1 c,.string s,.int .i64 1] w fun e w'=>apQ s.size e/\Below w.heap.size w w':=by
 have d:=G (atC s m aF c cl j w ag);clear ag j;go_enter func492,ntmps492;go_upto_region 2 with(go_at_call 571;refine(d.out).mono ?_;rintro e E ⟨⟨v,n,aK,rfl,a,i,F⟩,b⟩)
 obtain⟨va,K,rfl⟩:=akS a;have O:(n:Int)<=1000:=z;by_cases I:2<=n
 ·have hd:¬((n/2:Nat):Int)<1:=z;have k:¬(n:Int)/2<1:=z;have L:0<(n:Int):=z;have N:1<(n:Int):=z;rcases a.2 with⟨o,H⟩|⟨g,cap,J,ak,D,f,u⟩
  ·exfalso;injection o with _ M;omega
  ·injection ak with A _ _
   subst A;have r:0<aK.length:=by have:=a.1;omega
   obtain⟨x,y,l,rfl,B,q⟩:=i r;have br:=a.cells (g:=g) rfl 0 (.int .i64 x) rfl;have c1:=a.cells (g:=g) rfl 1 (.int .i64 y) rfl;rw[Aq]at br c1;have C:=b1 f;have t:=G b;clear a i b f u d;simp only[hG,gm]at br c1
   go_wp2;go_quiet (fail)
   go_wp2;refine fL (by simp[results,results492,go_sem];rfl) rfl ?_;exact⟨⟨x,y,true,rfl,fun _=>⟨B,q⟩⟩,oR t.out _⟩
 ·have hd:((n/2:Nat):Int)<1:=z;have k:(n:Int)/2<1:=z
  go_wp2;refine fL (by simp[results,results492,go_sem];rfl) rfl ?_;exact⟨⟨0,0,false,rfl,fun h=>by simp at h⟩,b⟩
theorem ayl(s:ByteArray)(j:s.size<=200)(aF:Option Addr)(d:Nat)(cl:Int)(i:cl=1∨cl=2)(w:World)(ag:rP w aF cl): Calls prog 494 #[.slice aF 1 d,.string s] w fun e w'=>Ij e/\Below w.heap.size w w':=by
 have A:=G (alG cl i w aF d ag);have l:=G fun W=>aic s j W;have m:Hid (∀W,Below w.heap.size w W->Calls prog 572 #[.slice aF 1 d,.string s,.int .i64 0] W fun e w'=>acW (s.size+1) e w'/\Below W.heap.size W w'):=G fun W t=>ae3 s j aF d cl i 0 (dq _) W (ag.U t);have C:(s.size:Int)<(s.size:Int)+1:=z;clear ag i;go_enter func494,ntmps494
 go_wp2_with (first
  |(go_at_call 486;refine(A.out).mono ?_;rintro e B ⟨⟨u,rfl⟩,k⟩;have b:=G k;clear k;cases u)
  |(go_at_call 270;refine(l.out _).mono ?_;rintro e r ⟨⟨f,rfl⟩,rfl⟩;cases f)
  |(go_at_call 572;refine(m.out _ b.out).mono ?_;rintro e y ⟨⟨g,rfl,a⟩,c⟩;obtain⟨x,q⟩:=a.2.1 s.size z;have o:=a.1;have n:=G (b_ b.out c);clear c b a))
 all_goals(try go_wp2_with (first
  |(go_at_call 270;refine(l.out _).mono ?_;rintro e r ⟨⟨f,rfl⟩,rfl⟩;cases f)
  |(go_at_call 572;refine(m.out _ b.out).mono ?_;rintro e y ⟨⟨g,rfl,a⟩,c⟩;obtain⟨x,q⟩:=a.2.1 s.size z;have o:=a.1;have n:=Lib.hid (b_ b.out c);clear c b a)))
 all_goals first
  |(go_ret;exact⟨⟨_,rfl⟩,b.out⟩)
  |(go_ret;exact⟨⟨_,rfl⟩,n.out⟩)
theorem j5.append{s t:ByteArray}(b:j5 s)(ah:j5 t)(h:s.size+t.size<=200):j5 (s++t):=by
 have:(s++t)=⟨(s.data.toList++t.data.toList).toArray⟩:=by apply HH;apply vE;simp
 rw[this];refine qW.Ai (fun c a=>?_) (by rw[ie];show s.data.toList.length+t.data.toList.length<=200;rw[ji,ji];exact h);rcases nJ.1 a with H|H
 ·exact qW.g0 b c H
 ·exact qW.g0 ah c H
theorem j5.extract{s:ByteArray}(a:j5 s)(x y:Nat):j5 (s.extract x y):=by
 have:(s.extract x y)=⟨((s.data.toList.drop x).take (y-x)).toArray⟩:=by apply HH;apply vE;simp[anq]
 rw[this];have d:s.data.toList.length=s.size:=ji;refine qW.Ai (fun c b=>qW.g0 a c (anM (MW b))) ?_;rw[n_,pp];have:=a.1;omega
theorem aDG(f:Option Addr)(l g:Nat)(k fn dn ds:Int)(i:Option Addr)(fR j:Nat)(aF:ByteArray)(m:Nat)(bX a:ByteArray)(r:j5 bX)(q:j5 a)(w:World)(n:Option Addr)(ac:Nat)(h:cU be (aY be 1) w n [g8 bX,g8 a]): Calls prog 373 #[.string ⟨#[99,111,110,99,97,116]⟩,.string aF,.agg (eM f l g k fn dn ds i fR j),.slice n 2 ac] w fun e w'=>eS w.heap.size m e w'/\Below w.heap.size w w':=by
 have X:((⟨#[99,111,110,99,97,116]⟩:ByteArray).toList==(⟨#[99,111,110,99,97,116]⟩:ByteArray).toList)=true:=qc _;have u:=G fun s W=>Re s W;have Q:=r.1;have ce:=q.1;have c:=G (o0.g7 w (eM f l g k fn dn ds i fR j) 222);obtain⟨b,o,rfl,A,⟨ca,cc,ra,rc,ab⟩,R,S,U,V,H⟩:=FO h;clear h;go_enter func373,ntmps373;go_upto_region 1 with fail
 generalize ((w.alloc (.cells (eM f l g k fn dn ds i fR j) 222)).alloc (.cells fi 44))=N at c⊢;have d:=c.out.b;have T:=cE d A;have c1:=aA d A ab.c1;have P:=aA d A H.c1;clear ab H;by_cases t:bX.size+a.size<=200
 ·have I:¬200<(bX.size:Int)+(a.size:Int):=z;have cd:=G (r.append q t)
  go_wp2_with (first
   |(go_at_call 368;refine(u.out _ _).mono ?_;rintro e O ⟨rfl,x⟩;have dP:=c.out.U x;obtain⟨J,y,C,F,K,L,M⟩:=eU dP.o;obtain⟨z0,B,D,z3,z4,z5,E⟩:=gI dP.o))
  exact Xy
 ·have I:200<(bX.size:Int)+(a.size:Int):=z;have dP:=c.out;obtain⟨J,y,C,F,K,L,M⟩:=eU dP.o;obtain⟨z0,B,D,z3,z4,z5,E⟩:=gI dP.o
  go_wp2;refine fL (jp (fn:=f373) rfl _ _ (w.heap.size+1) 44 _ (0,0) _ _ rfl rfl (h3 dP.o _ _ _ _ _ _ _) underlying44 rfl iJ) rfl ?_;exact⟨eS.none _ _ _ 3 ai ai,ib dP.b z _ _ _ _ _ _ _⟩
theorem aDJ(c:Option Addr)(j d:Nat)(i fn dn ds:Int)(f:Option Addr)(fR g:Nat)(aF:ByteArray)(m:Nat)(bX:ByteArray)(x:j5 bX)(w:World)(l:Option Addr)(ac:Nat)(h:cU be (aY be 1) w l [g8 bX]): Calls prog 373 #[.string ⟨#[117,112,112,101,114]⟩,.string aF,.agg (eM c j d i fn dn ds f fR g),.slice l 1 ac] w fun e w'=>eS w.heap.size m e w'/\Below w.heap.size w w':=by
 have B:((⟨#[117,112,112,101,114]⟩:ByteArray).toList==(⟨#[99,111,110,99,97,116]⟩:ByteArray).toList)=false:=fy ai;have S:((⟨#[117,112,112,101,114]⟩:ByteArray).toList==(⟨#[117,112,112,101,114]⟩:ByteArray).toList)=true:=qc _;have t:=G fun W=>aEJ bX x W;have q:=G fun s W=>Re s W;have a:=G (o0.g7 w (eM c j d i fn dn ds f fR g) 222);obtain⟨b,o,rfl,A,ca,cc,ra,rc,ab⟩:=Je h;clear h;go_enter func373,ntmps373;go_upto_region 1 with fail
 generalize ((w.alloc (.cells (eM c j d i fn dn ds f fR g) 222)).alloc (.cells fi 44))=C at a⊢;have k:=a.out.b;have Q:=cE k A;have c1:=aA k A ab.c1;clear ab
 go_wp2_with (first
  |(go_at_call 489;refine(t.out _).mono ?_;rintro e E ⟨⟨R,rfl,n⟩,r⟩;have y:=G (a.out.U r);have cd:=G n;clear n)
  |(go_at_call 368;refine(q.out _ _).mono ?_;rintro e D ⟨rfl,u⟩;have dP:=y.out.U u;obtain⟨M,F,I,L,N,O,P⟩:=eU dP.o;obtain⟨z0,H,J,z3,z4,z5,K⟩:=gI dP.o))
 exact Xy
theorem aDH(g:Option Addr)(l i:Nat)(k fn dn ds:Int)(c:Option Addr)(fR d:Nat)(aF:ByteArray)(m:Nat)(bX:ByteArray)(j:j5 bX)(cl:Int)(J:cl=1∨cl=2)(w:World)(n:Option Addr)(ac:Nat)(h:cU be (aY be 1) w n [g8 bX])(P:rP w c cl): Calls prog 373 #[.string ⟨#[101,120,116,114,97,99,116]⟩,.string aF,.agg (eM g l i k 1 dn ds c 1 d),.slice n 1 ac] w fun e w'=>eS w.heap.size m e w'/\Below w.heap.size w w':=by
 have S:((⟨#[101,120,116,114,97,99,116]⟩:ByteArray).toList==(⟨#[99,111,110,99,97,116]⟩:ByteArray).toList)=false:=fy ai;have X:((⟨#[101,120,116,114,97,99,116]⟩:ByteArray).toList==(⟨#[117,112,112,101,114]⟩:ByteArray).toList)=false:=fy ai;have U:((⟨#[101,120,116,114,97,99,116]⟩:ByteArray).toList==(⟨#[108,111,119,101,114]⟩:ByteArray).toList)=false:=fy ai;have V:((⟨#[101,120,116,114,97,99,116]⟩:ByteArray).toList==(⟨#[116,114,105,109]⟩:ByteArray).toList)=false:=fy ai;have uY:((⟨#[101,120,116,114,97,99,116]⟩:ByteArray).toList==(⟨#[101,120,116,114,97,99,116]⟩:ByteArray).toList)=true:=qc _;have B:=G fun W (r:Below w.heap.size w W)=>atz bX j.1 c d cl J W (P.U r);have t:=G fun s W=>Re s W;have fg:=j.1;have a:=G (o0.g7 w (eM g l i k 1 dn ds c 1 d) 222);obtain⟨b,o,rfl,A,ca,cc,ra,rc,ab⟩:=Je h;clear h;go_enter func373,ntmps373;go_upto_region 1 with fail
 generalize ((w.alloc (.cells (eM g l i k 1 dn ds c 1 d) 222)).alloc (.cells fi 44))=T at a⊢;have f:=a.out.b;have iq:=cE f A;have c1:=aA f A ab.c1;obtain⟨-,-,hg,-,-,f5⟩:=fZ a.out.g;have R:=b1 a.out.g;clear ab;go_upto_region 15 with(first
  |(go_at_call 492;refine(B.out _ f).mono ?_;rintro e Z ⟨⟨x,y,ok,rfl,Q⟩,u⟩;have q:=G (a.out.U u)))
 cases ok
 ·have dP:=q.out;obtain⟨L,D,F,K,M,N,O⟩:=eU dP.o;obtain⟨z0,E,H,z3,z4,z5,I⟩:=gI dP.o
  go_wp2;refine fL (jp (fn:=f373) rfl _ _ (w.heap.size+1) 44 _ (0,0) _ _ rfl rfl (h3 dP.o _ _ _ _ _ _ _) underlying44 rfl iJ) rfl ?_;exact⟨eS.none _ _ _ 18 ai ai,ib dP.b z _ _ _ _ _ _ _⟩
 ·obtain⟨lJ,zK⟩:=Q rfl;have g4:(x:Int)<=(y:Int):=z;have gx:(y:Int)<=(bX.size:Int):=z;have i3:(0:Int)<=(x:Int):=z;have cd:=G (j.extract x y)
  go_wp2_with (first
   |(go_at_call 368;refine(t.out _ _).mono ?_;rintro e Y ⟨rfl,C⟩;have dP:=q.out.U C;obtain⟨L,D,F,K,M,N,O⟩:=eU dP.o;obtain⟨z0,E,H,z3,z4,z5,I⟩:=gI dP.o))
  exact Xy
theorem aDI(g:Option Addr)(l j:Nat)(k fn dn ds:Int)(c:Option Addr)(fR d:Nat)(aF:ByteArray)(m:Nat)(bX:ByteArray)(B:j5 bX)(cl:Int)(C:cl=1∨cl=2)(w:World)(n:Option Addr)(ac:Nat)(h:cU be (aY be 1) w n [g8 bX])(E:rP w c cl): Calls prog 373 #[.string ⟨#[109,97,116,99,104]⟩,.string aF,.agg (eM g l j k fn dn ds c 1 d),.slice n 1 ac] w fun e w'=>eS w.heap.size m e w'/\Below w.heap.size w w':=by
 have M:((⟨#[109,97,116,99,104]⟩:ByteArray).toList==(⟨#[99,111,110,99,97,116]⟩:ByteArray).toList)=false:=fy ai;have Q:((⟨#[109,97,116,99,104]⟩:ByteArray).toList==(⟨#[117,112,112,101,114]⟩:ByteArray).toList)=false:=fy ai;have O:((⟨#[109,97,116,99,104]⟩:ByteArray).toList==(⟨#[108,111,119,101,114]⟩:ByteArray).toList)=false:=fy ai;have P:((⟨#[109,97,116,99,104]⟩:ByteArray).toList==(⟨#[116,114,105,109]⟩:ByteArray).toList)=false:=fy ai;have H:((⟨#[109,97,116,99,104]⟩:ByteArray).toList==(⟨#[101,120,116,114,97,99,116]⟩:ByteArray).toList)=false:=fy ai;have I:((⟨#[109,97,116,99,104]⟩:ByteArray).toList==(⟨#[108,101,110,103,116,104]⟩:ByteArray).toList)=false:=fy ai;have K:((⟨#[109,97,116,99,104]⟩:ByteArray).toList==(⟨#[112,97,114,115,101]⟩:ByteArray).toList)=false:=fy ai;have L:((⟨#[109,97,116,99,104]⟩:ByteArray).toList==(⟨#[114,101,97,100]⟩:ByteArray).toList)=false:=fy ai;have x:=G fun W (r:Below w.heap.size w W)=>ayl bX B.1 c d cl C W (E.U r);have s:=G fun b W=>amV b W;have a:=G (o0.g7 w (eM g l j k fn dn ds c 1 d) 222);obtain⟨b,o,rfl,A,ca,cc,ra,rc,ab⟩:=Je h;clear h;go_enter func373,ntmps373;go_upto_region 1 with fail
 generalize ((w.alloc (.cells (eM g l j k fn dn ds c 1 d) 222)).alloc (.cells fi 44))=N at a⊢;have f:=a.out.b;have iq:=cE f A;have c1:=aA f A ab.c1;have f5:=aS 5 a.out.g;have F:=b1 a.out.g;clear ab
 go_wp2_with (first
  |(go_at_call 494;refine(x.out _ f).mono ?_;rintro e S ⟨⟨Z,rfl⟩,u⟩;have D:=G (a.out.U u))
  |(go_at_call 371;refine(s.out _ _).mono ?_;rintro e R ⟨⟨q,az,rfl⟩,y⟩;have dP:=D.out.U y;obtain⟨gC,T,V,fU,gE,gM,gT⟩:=eU dP.o;obtain⟨z0,U,X,z3,z4,z5,Y⟩:=gI dP.o))
 refine fL (jp (fn:=f373) rfl _ _ (w.heap.size+1) 44 _ (0,0) _ _ rfl rfl (h3 dP.o _ _ _ _ _ _ _) underlying44 rfl iJ) rfl ?_;exact ajA
theorem aze(k:Option Addr)(u l:Nat)(t fn dn ds:Int)(r:Option Addr)(fR s:Nat)(aF:ByteArray)(m:Nat)(f j:Int)(g:Nat)(B:0<=f/\f<=3652058)(D:g1 j g)(w:World)(y:Option Addr)(ac:Nat)(h:cU be (aY be 1) w y [ju f,gi j g]): Calls prog 375 #[.string ⟨#[100,97,121,115]⟩,.string aF,.agg (eM k u l t fn dn ds r fR s),.slice y 2 ac] w fun e w'=>eS w.heap.size m e w'/\Below w.heap.size w w':=by
 have JZ:((⟨#[100,97,121,115]⟩:ByteArray).toList==(⟨#[112,114,105,110,116]⟩:ByteArray).toList)=false:=fy ai;have Ow:((⟨#[100,97,121,115]⟩:ByteArray).toList==(⟨#[97,100,100]⟩:ByteArray).toList)=false:=fy ai;have Ox:((⟨#[100,97,121,115]⟩:ByteArray).toList==(⟨#[115,117,98]⟩:ByteArray).toList)=false:=fy ai;have Us:((⟨#[100,97,121,115]⟩:ByteArray).toList==(⟨#[109,117,108]⟩:ByteArray).toList)=false:=fy ai;have ad:((⟨#[100,97,121,115]⟩:ByteArray).toList==(⟨#[114,111,117,110,100]⟩:ByteArray).toList)=false:=fy ai;have ae:((⟨#[100,97,121,115]⟩:ByteArray).toList==(⟨#[115,104,111,119]⟩:ByteArray).toList)=false:=fy ai;have uY:((⟨#[100,97,121,115]⟩:ByteArray).toList==(⟨#[100,97,121,115]⟩:ByteArray).toList)=true:=qc _;have T:=G fun W=>aqF f j B.1 B.2 D.2.2.1 D.2.2.2.1 W;have S:=G fun n W=>asm n W;obtain⟨b,o,rfl,A,⟨ca,cc,ra,rc,ab⟩,iB,iU,kY,kn,H⟩:=FO h;have d:=G (o0.g7 w (eM k u l t fn dn ds r fR s) 222);clear h;go_enter func375,ntmps375;go_upto_region 16 with fail
 generalize ((w.alloc (.cells (eM k u l t fn dn ds r fR s) 222)).alloc (.cells fi 44))=i at d⊢;have c:=d.out.b;have Z:=cE c A;have br:=aA c A ab.c4;have q:=aA c A H.c2;have Y:=aA c A H.c3;clear ab H;by_cases aa:0<g
 ·have X:0<(g:Int):=z;have a:=d.out;obtain⟨M,E,I,L,N,O,P⟩:=eU a.o;obtain⟨z0,F,J,z3,z4,z5,K⟩:=gI a.o
  go_wp2;refine fL (jp (fn:=f375) rfl _ _ (w.heap.size+1) 44 _ (0,0) _ _ rfl rfl (h3 a.o _ _ _ _ _ _ _) underlying44 rfl iJ) rfl ?_;exact⟨eS.none _ _ _ 15 ai ai,ib a.b z _ _ _ _ _ _ _⟩
 ·have X:¬0<(g:Int):=z;go_upto_region 18 with fail
  have C:=G (d.out.U (lK i));have Q:i.drew.cell? ⟨b,o+4,none⟩=_:=br;have x:i.drew.cell? ⟨b,o+7+2,none⟩=_:=q
  go_region_held3 (fun aT=>aT.cell? ⟨b,o+4,none⟩=some (.int .i64 f)/\aT.cell? ⟨b,o+7+2,none⟩=some (.int .i64 j)) (first|with_reducible exact⟨br,q⟩|with_reducible exact⟨Q,x⟩|go_keep) (first
   |(go_at_call 506;refine(T.out _).mono ?_;rintro e bz ⟨⟨n,ok,rfl,R⟩,rfl⟩))
  clear br q Q x Y d c Z;generalize i.drew=ao at*;cases ok
  ·have a:=C.out;obtain⟨M,E,I,L,N,O,P⟩:=eU a.o;obtain⟨z0,F,J,z3,z4,z5,K⟩:=gI a.o
   go_wp2;refine fL (jp (fn:=f375) rfl _ _ (w.heap.size+1) 44 _ (0,0) _ _ rfl rfl (h3 a.o _ _ _ _ _ _ _) underlying44 rfl iJ) rfl ?_;exact⟨eS.none _ _ _ 3 ai ai,ib a.b z _ _ _ _ _ _ _⟩
  ·obtain⟨V,ce⟩:=R rfl
   go_wp2_with (first
    |(go_at_call 370;refine(S.out _ _).mono ?_;rintro e bh ⟨rfl,U⟩;have a:=C.out.U U;obtain⟨M,E,I,L,N,O,P⟩:=eU a.o;obtain⟨z0,F,J,z3,z4,z5,K⟩:=gI a.o))
   refine fL (jp (fn:=f375) rfl _ _ (w.heap.size+1) 44 _ (0,0) _ _ rfl rfl (h3 a.o _ _ _ _ _ _ _) underlying44 rfl iJ) rfl ?_;exact⟨eS.some _ _ _ (aY.iE _ 1 _ 3 bL 0 0 n none 0 none 0) (.ju n V ce),ib a.b z _ _ _ _ _ _ _⟩
theorem eS.put{base n r B:Nat}{c:World}{k N S n':Int}{s:ByteArray}{ca ra:Option Addr}{cl cc rl rc:Nat}{err:Int}(h:eS base n (.returned (.tuple #[.agg (bY k s N S n' ca cl cc ra rl rc),.int .i64 err])) c)(o:r<base)(t:B<=base): eS B n (.returned (.tuple #[.agg (bY k s N S n' ca cl cc ra rl rc),.int .i64 err])) (yh c r (.int .i64 k) (.string s) (.int .i64 N) (.int .i64 S) (.int .i64 n') (.slice ca cl cc) (.slice ra rl rc)):=by
 obtain⟨eb,y,w,u,x,i,l,j,D,m,C,q,e,ab,H,I⟩:=h;injection e with e
 injection e with e
 injection e with e
 injection e with d a
 injection a with a _
 injection a with _ a
 subst a;refine⟨_,_,_,_,_,_,_,_,_,_,_,_,rfl,ab,H,fun f=>?_⟩;obtain⟨v,J,g⟩:=I f;injection d with d
 rw[←d]at J;exact⟨v,(J.gf (QG (fw.refl _ c) (fun(A:base<=r)=>z) _ _ _ _ _ _ _)).low fun b (A:base<=b)=>(show B<=b by omega),g⟩
theorem Ts{w:World}{a:Option Addr}{a_:List (List bH)}{l:List bH}(h:cU be (aY be 1) w a (iw a_::l)):∃b o,a=some ⟨b,o,none⟩/\b<w.heap.size/\∃ca cc ra rc,aY be 1 w (bY 5 bL 0 0 0 ca 2 cc ra a_.length rc) (iw a_)/\tH w b o (.int .i64 5) (.string bL) (.int .i64 0) (.int .i64 0) (.int .i64 0) (.slice ca 2 cc) (.slice ra a_.length rc):=by
 obtain⟨e,d,rfl,_,f,g⟩:=h.2 am;obtain⟨x,u,s,t,C,z,k,A,B,r,y,i,c⟩:=g 0 am;obtain⟨m,j,n,q,eg,H,I⟩:=i;injection eg with eg
 simp only[pk,EW,EX,Cl,Cz,yS]at eg;obtain⟨rfl,rfl,rfl,rfl,rfl,⟨rfl,rfl,rfl⟩,rfl,rfl,rfl⟩:=eg;simp only[tw,hG]at c;exact⟨e,d,rfl,f,_,_,_,_,⟨_,_,_,_,rfl,H,I⟩,c⟩
theorem aqX{w:World}{b o:Nat}{v:bH}{ce d a f:Int}{c:ByteArray}(h:cU be (aY be 1) w (some ⟨b,o,none⟩) [v,.mk ce c d a f [] []]):∃ca cc ra rc,tH w b (o+7) (.int .i64 ce) (.string c) (.int .i64 d) (.int .i64 a) (.int .i64 f) (.slice ca 0 cc) (.slice ra 0 rc):=by
 obtain⟨y,x,e,_,z,k⟩:=h.2 am;injection e with e
 injection e with ak i
 subst ak;subst i;obtain⟨u,t,s,r,D,A,F,E,B,G,C,j,g⟩:=k 1 am;obtain⟨l,m,n,q,ak,_⟩:=j;injection ak with ak
 simp only[pk,EW,EX,Cl,Cz,yS]at ak;obtain⟨rfl,rfl,rfl,rfl,rfl,⟨rfl,rfl,rfl⟩,rfl,rfl,rfl⟩:=ak;simp only[M2,yO]at g;exact⟨_,_,_,_,g⟩
theorem aDp(k:Nat)(I fn:Int)(D:Option Addr)(fR F:Nat)(m:Nat){n:Nat}(a_:List (List bH))(J:eR n (iw a_))(ce r l s:Int)(q:ByteArray)(aF:ByteArray)(w:World)(bW Z:Option Addr)(ac:Nat)(bp:Value)(aw:he be w bW [kV])(h:cU be (aY be 1) w Z [iw a_,.mk ce q r l s [] []]): Calls prog 374 #[.string ⟨#[119,104,101,114,101]⟩,.agg (eM bW 1 k I fn 0 0 D fR F),bp,.slice Z 2 ac] w fun e w'=>eS w.heap.size m e w'/\Below w.heap.size w w':=by
 have al:((⟨#[119,104,101,114,101]⟩:ByteArray).toList==(⟨#[108,111,111,107,117,112]⟩:ByteArray).toList)=false:=fy ai;have an:((⟨#[119,104,101,114,101]⟩:ByteArray).toList==(⟨#[116,97,98,108,101]⟩:ByteArray).toList)=false:=fy ai;have uY:((⟨#[119,104,101,114,101]⟩:ByteArray).toList==(⟨#[119,104,101,114,101]⟩:ByteArray).toList)=true:=qc _;obtain⟨b,o,rfl,A,ca,cc,ra,rc,fl,ab⟩:=Ts h;obtain⟨L,M,N,O,H⟩:=aqX h;have bk:=G fun W (ar:Below w.heap.size w W)=>aET (m:=m) a_ J W _ (fl.U ar) (bY ce q r l s L 0 M N 0 O) _ (aY.iE be 1 W ce q r l s L M N O);obtain⟨g,gZ,rfl,_,K,sc⟩:=aw.2 am;have E:=sc 0 am;simp only[yN,hG]at E;have j:=G (o0.g7 w (eM (some ⟨g,gZ,none⟩) 1 k I fn 0 0 D fR F) 222);clear h sc aw fl;go_enter func374,ntmps374
 go_wp2;generalize ((w.alloc (.cells (eM (some ⟨g,gZ,none⟩) 1 k I fn 0 0 D fR F) 222)).alloc (.cells fi 44))=ap at j⊢;have a:=j.out.b;have iq:=cE a A;have zB:=cE a K;have iZ:=b1 j.out.g;have br:=aA a A ab.br;have c1:=aA a A ab.c1;have c2:=aA a A ab.c2;have c3:=aA a A ab.c3;have c4:=aA a A ab.c4;have c5:=aA a A ab.c5;have fk:=aA a A ab.fk;have Q:=(show ap.cell? ⟨w.heap.size,0,none⟩=some (.slice (some ⟨g,gZ,none⟩) 1 k)from aS 0 j.out.g);have P:=aA a K E;have R:=aA a A H.br;have S:=aA a A H.c1;have u:=aA a A H.c2;have x:=aA a A H.c3;have y:=aA a A H.c4;have B:=aA a A H.c5;have C:=aA a A H.fk;have sP:ap.drew.cell? ⟨b,o,none⟩=_:=br;have sQ:ap.drew.cell? ⟨b,o+1,none⟩=_:=c1;have rW:ap.drew.cell? ⟨b,o+2,none⟩=_:=c2;have uQ:ap.drew.cell? ⟨b,o+3,none⟩=_:=c3;have Jp:ap.drew.cell? ⟨b,o+4,none⟩=_:=c4;have Jq:ap.drew.cell? ⟨b,o+5,none⟩=_:=c5;have Jr:ap.drew.cell? ⟨b,o+6,none⟩=_:=fk;have Js:ap.drew.cell? ⟨w.heap.size,0,none⟩=_:=Q;have Jt:ap.drew.cell? ⟨g,gZ,none⟩=_:=P;have Ju:ap.drew.cell? ⟨b,o+7,none⟩=_:=R;have Jn:ap.drew.cell? ⟨b,o+7+1,none⟩=_:=S;have TH:ap.drew.cell? ⟨b,o+7+2,none⟩=_:=u;have TI:ap.drew.cell? ⟨b,o+7+3,none⟩=_:=x;have af:ap.drew.cell? ⟨b,o+7+4,none⟩=_:=y;have ag:ap.drew.cell? ⟨b,o+7+5,none⟩=_:=B;have ah:ap.drew.cell? ⟨b,o+7+6,none⟩=_:=C;have d:w.heap.size+1≠b:=z;have wP:w.heap.size+1≠w.heap.size:=z;have G':w.heap.size+1≠g:=z;have f:=G iq;have Fe:=G zB;have hU:=G iZ;have i7:=G a.drew;have rI:=G (j.out.U (lK ap));have dN:w.heap.size+1<ap.heap.size:=b1 j.out.o;clear a A K E
 go_region_held3 (fun aT=>aT.cell? ⟨b,o,none⟩=some (.int .i64 5)/\aT.cell? ⟨b,o+1,none⟩=some (.string bL)/\aT.cell? ⟨b,o+2,none⟩=some (.int .i64 0)/\aT.cell? ⟨b,o+3,none⟩=some (.int .i64 0)/\aT.cell? ⟨b,o+4,none⟩=some (.int .i64 0)/\aT.cell? ⟨b,o+5,none⟩=some (.slice ca 2 cc)/\aT.cell? ⟨b,o+6,none⟩=some (.slice ra a_.length rc)/\aT.cell? ⟨w.heap.size,0,none⟩=some (.slice (some ⟨g,gZ,none⟩) 1 k)/\aT.cell? ⟨g,gZ,none⟩=some (.string kV)/\aT.cell? ⟨b,o+7,none⟩=some (.int .i64 ce)/\aT.cell? ⟨b,o+7+1,none⟩=some (.string q)/\aT.cell? ⟨b,o+7+2,none⟩=some (.int .i64 r)/\aT.cell? ⟨b,o+7+3,none⟩=some (.int .i64 l)/\aT.cell? ⟨b,o+7+4,none⟩=some (.int .i64 s)/\aT.cell? ⟨b,o+7+5,none⟩=some (.slice L 0 M)/\aT.cell? ⟨b,o+7+6,none⟩=some (.slice N 0 O)) (first|with_reducible exact⟨br,c1,c2,c3,c4,c5,fk,Q,P,R,S,u,x,y,B,C⟩|with_reducible exact⟨sP,sQ,rW,uQ,Jp,Jq,Jr,Js,Jt,Ju,Jn,TH,TI,af,ag,ah⟩|with_reducible exact⟨el,dk,dB,cN,ko,kp,nI,wZ,U,V,T,X,Y,aa,ad,ae⟩|with_reducible exact⟨(eW d).trans el,(eW d).trans dk,(eW d).trans dB,(eW d).trans cN,(eW d).trans ko,(eW d).trans kp,(eW d).trans nI,(eW wP).trans wZ,(eW G').trans U,(eW d).trans V,(eW d).trans T,(eW d).trans X,(eW d).trans Y,(eW d).trans aa,(eW d).trans ad,(eW d).trans ae⟩|go_keep) (first
  |(go_at_call 496;refine(bk.out _ i7.out).mono ?_;rintro e bz ⟨⟨eV,ph,y6,aj,na,TM,ak,TP,Yc,aq,Yg,ao,rfl,ny,kM,lf⟩,c⟩;have dP:=rI.out.U c;have el:=aA c f.out br;have dk:=aA c f.out c1;have dB:=aA c f.out c2;have cN:=aA c f.out c3;have ko:=aA c f.out c4;have kp:=aA c f.out c5;have nI:=aA c f.out fk;have wZ:=aA c hU.out Q;have U:=aA c Fe.out P;have V:=aA c f.out R;have T:=aA c f.out S;have X:=aA c f.out u;have Y:=aA c f.out x;have aa:=aA c f.out y;have ad:=aA c f.out B;have ae:=aA c f.out C;obtain⟨gC,c_,dL,fU,gE,gM,gT⟩:=eU dP.o;obtain⟨z0,cy,dv,z3,z4,z5,eP⟩:=gI dP.o))
 exact ajx
theorem aDo(k:Nat)(s fn:Int)(l:Option Addr)(fR r:Nat)(m:Nat)(an:1<=m){n:Nat}(a_:List (List bH))(J:eR n (iw a_))(aF:ByteArray)(w:World)(M K:Option Addr)(ac:Nat)(bp:Value)(L:he be w M [kH])(h:cU be (aY be 1) w K [iw a_]): Calls prog 374 #[.string ⟨#[115,117,109]⟩,.agg (eM M 1 k s fn 0 0 l fR r),bp,.slice K 1 ac] w fun e w'=>eS w.heap.size m e w'/\Below w.heap.size w w':=by
 have ae:((⟨#[115,117,109]⟩:ByteArray).toList==(⟨#[108,111,111,107,117,112]⟩:ByteArray).toList)=false:=fy ai;have af:((⟨#[115,117,109]⟩:ByteArray).toList==(⟨#[116,97,98,108,101]⟩:ByteArray).toList)=false:=fy ai;have al:((⟨#[115,117,109]⟩:ByteArray).toList==(⟨#[119,104,101,114,101]⟩:ByteArray).toList)=false:=fy ai;have aj:((⟨#[115,117,109]⟩:ByteArray).toList==(⟨#[106,111,105,110]⟩:ByteArray).toList)=false:=fy ai;have ak:((⟨#[115,117,109]⟩:ByteArray).toList==(⟨#[112,105,99,107]⟩:ByteArray).toList)=false:=fy ai;have uY:((⟨#[115,117,109]⟩:ByteArray).toList==(⟨#[115,117,109]⟩:ByteArray).toList)=true:=qc _;obtain⟨b,o,rfl,A,ca,cc,ra,rc,R,ab⟩:=Ts h;have bk:=G fun W (ar:Below w.heap.size w W)=>aDh (m:=m) an a_ J W _ (R.U ar);obtain⟨f,gZ,rfl,_,u,V⟩:=L.2 am;have q:=V 0 am;simp only[yN,hG]at q;have d:=G (o0.g7 w (eM (some ⟨f,gZ,none⟩) 1 k s fn 0 0 l fR r) 222);clear h V L R;go_enter func374,ntmps374
 go_wp2;generalize ((w.alloc (.cells (eM (some ⟨f,gZ,none⟩) 1 k s fn 0 0 l fR r) 222)).alloc (.cells fi 44))=ap at d⊢;have a:=d.out.b;have iq:=cE a A;have zB:=cE a u;have iZ:=b1 d.out.g;have br:=aA a A ab.br;have c1:=aA a A ab.c1;have c2:=aA a A ab.c2;have c3:=aA a A ab.c3;have c4:=aA a A ab.c4;have c5:=aA a A ab.c5;have fk:=aA a A ab.fk;have B:=(show ap.cell? ⟨w.heap.size,0,none⟩=some (.slice (some ⟨f,gZ,none⟩) 1 k)from aS 0 d.out.g);have y:=aA a u q;have C:=(show ap.cell? ⟨w.heap.size,3,none⟩=some (.int .i64 0)from aS 3 d.out.g);have E:=(show ap.cell? ⟨w.heap.size,4,none⟩=some (.int .i64 0)from aS 4 d.out.g);have sP:ap.drew.cell? ⟨b,o,none⟩=_:=br;have sQ:ap.drew.cell? ⟨b,o+1,none⟩=_:=c1;have rW:ap.drew.cell? ⟨b,o+2,none⟩=_:=c2;have uQ:ap.drew.cell? ⟨b,o+3,none⟩=_:=c3;have Jp:ap.drew.cell? ⟨b,o+4,none⟩=_:=c4;have Jq:ap.drew.cell? ⟨b,o+5,none⟩=_:=c5;have Jr:ap.drew.cell? ⟨b,o+6,none⟩=_:=fk;have Js:ap.drew.cell? ⟨w.heap.size,0,none⟩=_:=B;have Jt:ap.drew.cell? ⟨f,gZ,none⟩=_:=y;have Ju:ap.drew.cell? ⟨w.heap.size,3,none⟩=_:=C;have Jn:ap.drew.cell? ⟨w.heap.size,4,none⟩=_:=E;have g:w.heap.size+1≠b:=z;have D:w.heap.size+1≠w.heap.size:=z;have Z:w.heap.size+1≠f:=z;have j:=G iq;have Y:=G zB;have x:=G iZ;have i7:=G a.drew;have rI:=G (d.out.U (lK ap));have dN:w.heap.size+1<ap.heap.size:=b1 d.out.o;clear a A u q
 go_region_held3 (fun aT=>aT.cell? ⟨b,o,none⟩=some (.int .i64 5)/\aT.cell? ⟨b,o+1,none⟩=some (.string bL)/\aT.cell? ⟨b,o+2,none⟩=some (.int .i64 0)/\aT.cell? ⟨b,o+3,none⟩=some (.int .i64 0)/\aT.cell? ⟨b,o+4,none⟩=some (.int .i64 0)/\aT.cell? ⟨b,o+5,none⟩=some (.slice ca 2 cc)/\aT.cell? ⟨b,o+6,none⟩=some (.slice ra a_.length rc)/\aT.cell? ⟨w.heap.size,0,none⟩=some (.slice (some ⟨f,gZ,none⟩) 1 k)/\aT.cell? ⟨f,gZ,none⟩=some (.string kH)/\aT.cell? ⟨w.heap.size,3,none⟩=some (.int .i64 0)/\aT.cell? ⟨w.heap.size,4,none⟩=some (.int .i64 0)) (first|with_reducible exact⟨br,c1,c2,c3,c4,c5,fk,B,y,C,E⟩|with_reducible exact⟨sP,sQ,rW,uQ,Jp,Jq,Jr,Js,Jt,Ju,Jn⟩|with_reducible exact⟨Q,P,O,N,S,T,U,X,H,I,F⟩|with_reducible exact⟨(eW g).trans Q,(eW g).trans P,(eW g).trans O,(eW g).trans N,(eW g).trans S,(eW g).trans T,(eW g).trans U,(eW D).trans X,(eW Z).trans H,(eW D).trans I,(eW D).trans F⟩|go_keep) (first
  |(go_at_call 499;refine(bk.out _ i7.out).mono ?_;rintro e bz ⟨⟨eV,ph,y6,aa,na,TM,ad,TP,Yc,ah,Yg,ag,rfl,ny,kM,lf⟩,c⟩;have dP:=rI.out.U c;have Q:=aA c j.out br;have P:=aA c j.out c1;have O:=aA c j.out c2;have N:=aA c j.out c3;have S:=aA c j.out c4;have T:=aA c j.out c5;have U:=aA c j.out fk;have X:=aA c x.out B;have H:=aA c Y.out y;have I:=aA c x.out C;have F:=aA c x.out E;obtain⟨gC,c_,dL,fU,gE,gM,gT⟩:=eU dP.o;obtain⟨z0,cy,dv,z3,z4,z5,eP⟩:=gI dP.o))
 exact ajx
theorem aDm(d:Option Addr)(k f:Nat)(j fn dn ds:Int)(g:Option Addr)(fR i:Nat)(m:Nat)(C:1<=m)(a_:List (List bH))(B:a_.length<=3)(w:World)(n:Option Addr)(ac:Nat)(s:Value)(h:cU be (aY be 1) w n [iw a_]): Calls prog 374 #[.string ⟨#[99,111,117,110,116]⟩,.agg (eM d k f j fn dn ds g fR i),s,.slice n 1 ac] w fun e w'=>eS w.heap.size m e w'/\Below w.heap.size w w':=by
 have x:((⟨#[99,111,117,110,116]⟩:ByteArray).toList==(⟨#[108,111,111,107,117,112]⟩:ByteArray).toList)=false:=fy ai;have y:((⟨#[99,111,117,110,116]⟩:ByteArray).toList==(⟨#[116,97,98,108,101]⟩:ByteArray).toList)=false:=fy ai;have H:((⟨#[99,111,117,110,116]⟩:ByteArray).toList==(⟨#[119,104,101,114,101]⟩:ByteArray).toList)=false:=fy ai;have E:((⟨#[99,111,117,110,116]⟩:ByteArray).toList==(⟨#[106,111,105,110]⟩:ByteArray).toList)=false:=fy ai;have F:((⟨#[99,111,117,110,116]⟩:ByteArray).toList==(⟨#[112,105,99,107]⟩:ByteArray).toList)=false:=fy ai;have u:((⟨#[99,111,117,110,116]⟩:ByteArray).toList==(⟨#[115,117,109]⟩:ByteArray).toList)=false:=fy ai;have U:((⟨#[99,111,117,110,116]⟩:ByteArray).toList==(⟨#[99,111,117,110,116]⟩:ByteArray).toList)=true:=qc _;obtain⟨b,o,rfl,A,ca,cc,ra,rc,t,ab⟩:=Ts h;have q:=G fun W=>Qg (a_.length:Int) 0 W;have c:=G (o0.g7 w (eM d k f j fn dn ds g fR i) 222);clear h t;go_enter func374,ntmps374;go_upto_region 1 with fail
 generalize ((w.alloc (.cells (eM d k f j fn dn ds g fR i) 222)).alloc (.cells fi 44))=D at c⊢;have l:=c.out.b;have T:=cE l A;have fk:=aA l A ab.fk;clear ab
 go_wp2_with (go_at_call 369;refine(q.out _).mono ?_;rintro e I ⟨rfl,r⟩;have a:=c.out.U r;obtain⟨P,J,L,O,Q,R,S⟩:=eU a.o;obtain⟨z0,K,M,z3,z4,z5,N⟩:=gI a.o);refine fL (jp (fn:=f374) rfl _ _ (w.heap.size+1) 44 _ (0,0) _ _ rfl rfl (h3 a.o _ _ _ _ _ _ _) underlying44 rfl iJ) rfl ?_;exact⟨eS.some _ _ _ (aY.iE _ 1 _ 2 bL (a_.length:Int) 0 0 none 0 none 0) (.gi _ 0 ⟨am,am,z,z,.inl rfl⟩ (by
  have:10^3<=10^(2*m+1):=ks z z
  omega) z),ib a.b z _ _ _ _ _ _ _⟩
end Go.b3
namespace Go.b3
open Go Go.Proofs.Tryz Go.ch Go.Proofs Go.RowKit Go.aI
open Go.bj.N (nc EB om zl lq)
open Go.c0 (cO bA iM)
def IM(w:World)(a:Option Addr)(l:List Nat):Prop:=l.length<=8/\(0<l.length->∃b o,a=some ⟨b,o,none⟩/\b<w.heap.size/\∀i (hi:i<l.length),w.cell? ⟨b,o+i,none⟩=some (.int .i64 (l[i]:Int)))
theorem IM.U{w w':World}{a:Option Addr}{l:List Nat}(h:IM w a l)(A:Below w.heap.size w w'):IM w' a l:=
 ⟨h.1,fun ab=>by
  obtain⟨b,o,e,c,d⟩:=h.2 ab
  exact⟨b,o,e,cE A c,fun i hi=>(A.cell c).trans (d i hi)⟩⟩
def ah4(l:List Nat):List K:=l.map fun n=>.int .i64 (.ofNat n)
def amA(l:List ByteArray):List K:=l.map om
def ak8(n:Nat):List K:=[.int .i64 (.ofNat n),.int .i64 (.ofNat 1),.int .i64 (.ofNat 200),.str []]
def Jf(h:ay)(b e:Nat)(l:List K):Bool:=match h.cK b with
 |some (.cells a vs _ _)=>Nat.beq e a&&K.oo (vs.take l.length) l
 |_=>false
def PO(h:ay)(a:K)(l:List Nat):Bool:=Nat.ble l.length 8&&(match a with
 |.bS=>l.isEmpty
 |.slice b 0 n 1 _=>Nat.beq n l.length&&Jf h b 3 (ah4 l)
 |_=>false)
def Q'(h:ay)(a:K)(l:List ByteArray):Bool:=Nat.ble l.length 8&&(match a with
 |.bS=>l.isEmpty
 |.slice b 0 n 1 _=>Nat.beq n l.length&&Jf h b 9 (amA l)
 |_=>false)
def Hh(h:ay)(a:K)(o:Option Nat):Bool:=match a,o with
 |.bS,none=>true
 |.slice b 0 1 4 _,some n=>Jf h b 403 (ak8 n)
 |_,_=>false
theorem Tu{ρ:b4}{σ:bl}{h:ay}{w:World}(f:c6 ρ σ h w){b e:Nat}{l:List K}(A:Jf h b e l=true):∃p arr bg,σ b=some p/\w.heap[p.aU]? =some (.cells arr e bg)/\∀i v,l[i]? =some v->∃x,aE ρ σ v=some x/\arr[p.dA+i]? =some x/\w.cell? ⟨p.aU,p.dA+i,none⟩=some x:=by
 unfold Jf at A;split at A
 ·rename_i r vs t wr d;simp only[dz]at A;obtain⟨H,I⟩:=A;obtain rfl:=gV H;have I:=K.sN I;obtain⟨p,arr,bg,cs,ag,c,q,o,_,g,j,m,_⟩:=f.cells d;refine⟨p,arr,bg,ag,c,fun i v J=>?_⟩;have hi:i<l.length:=(j2.1 J).1;have s:l.length<=vs.length:=by have:=ih List.length I;rw[n_]at this;omega
  have n:vs[i]? =some v:=by rw[←I]at J;rw[oS,cv z]at J;exact J
  obtain⟨x,a,k⟩:=xy g n;exact⟨x,k,by rw[m i z,a],by rw[j i z,a]⟩
 ·cases A
theorem axi{ρ:b4}{σ:bl}{h:ay}{w:World}(m:c6 ρ σ h w){a:K}{c:Value}{l:List Nat}(hi:PO h a l=true)(L:aE ρ σ a=some c):∃f ac,c=.slice f l.length ac/\IM w f l:=by
 simp only[PO,dz]at hi;obtain⟨d,hi⟩:=hi;have d:l.length<=8:=by simpa using d
 split at hi
 ·exact aj4
 ·rename_i b n cap;simp only[aE,ig]at L;obtain⟨p,ag,rfl⟩:=L;simp only[dz]at hi;obtain⟨H,I⟩:=hi;obtain rfl:=gV H;obtain⟨q,arr,bg,j,g,k⟩:=Tu m I;obtain rfl:p=q:=gn (ag.symm.trans j);refine⟨_,_,rfl,d,fun _=>⟨p.aU,p.dA+0,rfl,(hl.1 g).1,fun i hi=>?_⟩⟩;obtain⟨x,e,_,o⟩:=k i (.int .i64 (.ofNat l[i])) (by simp[ah4,hi]);simp only[aE,cb]at e;rw[hG,o,←e];rfl
 ·cases hi
theorem aDd{ρ:b4}{σ:bl}{h:ay}{w:World}(m:c6 ρ σ h w){a:K}{c:Value}{l:List ByteArray}(hi:Q' h a l=true)(L:aE ρ σ a=some c):∃e ac,c=.slice e l.length ac/\he be w e l:=by
 simp only[Q',dz]at hi;obtain⟨f,hi⟩:=hi;have f:l.length<=8:=by simpa using f
 split at hi
 ·exact aj4
 ·rename_i b n cap;simp only[aE,ig]at L;obtain⟨p,ag,rfl⟩:=L;simp only[dz]at hi;obtain⟨H,I⟩:=hi;obtain rfl:=gV H;obtain⟨q,arr,bg,j,g,k⟩:=Tu m I;obtain rfl:p=q:=gn (ag.symm.trans j);refine⟨_,_,rfl,z,fun _=>⟨p.aU,p.dA+0,rfl,h5,(hl.1 g).1,fun i hi=>?_⟩⟩;obtain⟨x,d,_,o⟩:=k i (om l[i]) (by simp[amA,hi]);rw[zl]at d;rw[hG,o,←d]
 ·cases hi
theorem aAx{ρ:b4}{σ:bl}{h:ay}{w:World}(r:c6 ρ σ h w){a:K}{c:Value}{n:Nat}(hi:Hh h a (some n)=true)(e:aE ρ σ a=some c):∃f ac,c=.slice f 1 ac/\rP w f (n:Int):=by
 unfold Hh at hi;split at hi
 ·rename_i H I;cases I
 ·rename_i b cap m H;injection H with H
  subst H;simp only[aE,ig]at e;obtain⟨p,ag,rfl⟩:=e;obtain⟨q,arr,bg,l,k,o⟩:=Tu r hi;obtain rfl:p=q:=gn (ag.symm.trans l);have d:∀i v,(ak8 n)[i]? =some v->arr[p.dA+i]? =aE ρ σ v:=fun i v J=>by obtain⟨x,g,j,_⟩:=o i v J;rw[j,g]
  exact⟨_,_,rfl,p.aU,p.dA+0,arr,bg,rfl,k,by rw[hG];exact d 0 _ rfl,by rw[hG];exact d 1 _ rfl,by rw[hG];exact d 2 _ rfl,by rw[hG];exact(d 3 _ rfl).trans (by simp[aE,fz])⟩
 ·cases hi
theorem ay5{ρ:b4}{σ:bl}{h:ay}{a:K}{c:Value}(hi:Hh h a none=true)(b:aE ρ σ a=some c):c=.slice none 0 0:=by
 unfold Hh at hi;split at hi
 ·simp only[aE,cb]at b;exact b.symm
 ·rename_i H;cases H
 ·cases hi
structure xa where
 bo:List ByteArray
 k:Nat
 n:Nat
 dn:Nat
 ds:Nat
 p:Option Nat
theorem atr:i_ 167=none:=au
noncomputable def gz(op aF:ByteArray):Option (K×ay):=(iC prog i_ jY.find 300).call 167 [om op,om aF] (gU ⟨.e,13⟩ [])
def gy(f:xa)(x:Option (K×ay)):Bool:=match x with
 |some (.tup [.agg [a,.int .i64 k,.int .i64 n,.int .i64 dn,.int .i64 ds,p],.bool true],h)=>Q' h a f.bo&&K.oo [.int .i64 k,.int .i64 n,.int .i64 dn,.int .i64 ds] [.int .i64 (.ofNat f.k),.int .i64 (.ofNat f.n),.int .i64 (.ofNat f.dn),.int .i64 (.ofNat f.ds)]&&Hh h p f.p
 |_=>false
def ol(w:World)(a:Option Addr)(l:Nat)(o:Option Nat):Prop:=match o with
 |none=>a=none/\l=0
 |some n=>l=1/\rP w a (n:Int)
def AV(f:xa)(e:Ending)(w':World):Prop:=∃a d aF b c,e=.returned (.tuple #[.agg #[.slice a f.bo.length d,.int .i64 (f.k:Int),.int .i64 (f.n:Int),.int .i64 (f.dn:Int),.int .i64 (f.ds:Int),.slice aF b c],.bool true])/\he be w' a f.bo/\ol w' aF b f.p
theorem pW(op aF:ByteArray)(f:xa)(i:gy f (gz op aF)=true)(w:World):Calls prog 167 #[.string op,.string aF] w fun e w'=>AV f e w'/\Below w.heap.size w w':=by
 obtain⟨ρ,F,_⟩:=EB (mK prog) (fun _=>(0,0)) (fun _=>#[]);have q:jE prog nc:=fun g q=>⟨0,by
  rw[afF]at q
  simp[nc,q]⟩
 have D:c6 ρ nc (gU ⟨.e,13⟩ []) w:=by exact Xq
 have E:∃a k n dn ds p h,gz op aF=some (.tup [.agg [a,.int .i64 k,.int .i64 n,.int .i64 dn,.int .i64 ds,p],.bool true],h)/\Q' h a f.bo=true/\K.oo [.int .i64 k,.int .i64 n,.int .i64 dn,.int .i64 ds] [.int .i64 (.ofNat f.k),.int .i64 (.ofNat f.n),.int .i64 (.ofNat f.dn),.int .i64 (.ofNat f.ds)]=true/\Hh h p f.p=true:=by
  unfold gy at i;split at i
  ·rename_i L;simp only[dz]at i;exact⟨_,_,_,_,_,_,_,L,i.1.1,i.1.2,i.2⟩
  ·cases i
 obtain⟨a,k,n,dn,ds,p,O,J,H,I,o⟩:=E;have I:=K.sN I;simp only[pk,K.int.injEq,Cz,yS]at I;obtain⟨rfl,rfl,rfl,rfl⟩:=I;refine(ym follows (ρ:=ρ) F (lp.sY vC) wk atr q (args:=[om op,om aF]) (cs:=[.string op,.string aF]) (by simp[bU,zl]) (l:=[]) rfl rfl D J rfl).mono ?_;rintro e w' ⟨c,σ',rfl,r⟩;refine⟨?_,r.b⟩;have d:=r.v;simp only[aE,bU]at d;cases s:aE ρ σ' a with
 |none=>rw[s]at d;simp at d
 |some M=>
  cases j:aE ρ σ' p with
  |none=>rw[s,j]at d;simp at d
  |some N=>
   rw[s,j]at d;simp at d;subst d;obtain⟨u,y,rfl,t⟩:=aDd r.h H s;cases ag:f.p with
   |none=>rw[ag]at o;obtain rfl:=ay5 o j;exact⟨u,y,none,0,0,rfl,t,by simp[ol,ag]⟩
   |some m=>rw[ag]at o;obtain⟨B,C,rfl,G⟩:=aAx r.h o j;exact⟨u,y,B,1,C,rfl,t,by simp only[ol,ag];exact⟨h5,G⟩⟩
end Go.b3
namespace Go.b3
open Go Go.Proofs.Tryz Go.ch Go.Proofs Go.RowKit Go.aI Go.bj.N
open Go.c0 (cO bA iM)
noncomputable def fv(S:cO)(r:bA)(b:List Nat):Bool:=match aan S r with
 |some (.tup [a,.int .i64 _,.int .i64 (.ofNat 0)],h)=>pH h (ux S)&&PO h a b
 |_=>false
def AW(b:List Nat)(e:Ending)(w':World):Prop:=∃a ac k,e=.returned (.tuple #[.slice a b.length ac,.int .i64 k,.int .i64 0])/\IM w' a b
theorem pZ(S:cO)(r:bA)(j:List Nat)(d:fv S r j=true)(w:World)(bp:Value)(ca:Option Addr)(cc:Nat)(F:lq w bp)(K:iM w ca S.bs): Calls prog 85 #[.string r.op,.string r.aF,bp,.slice ca S.bs.length cc] w fun e w'=>AW j e w'/\Below w.heap.size w w':=by
 obtain⟨ρ,σ,h,M,C,bw,Y,qq,Gw⟩:=F;obtain⟨ed,o,arr,bg,rfl,l0,L⟩:=K;have kh:∀b,21<=b->σ b=none:=fun b A=>bw.jy b z;have E:∀b p,σ b=some p->b≠21:=fun b p A e=>by rw[e,kh 21 z]at A;cases A
 obtain⟨j1,x8⟩:∃j1:bl,j1=fun b=>if b=21 then some ⟨ed,o,2*cc⟩else σ b:=⟨_,rfl⟩
 have X:ke σ j1:=fun b p A=>by rw[x8];simp only;rw[bn (E b p A)];exact A
 have Kg:j1 21=some ⟨ed,o,2*cc⟩:=by rw[x8];simp
 have j':n7 (ux S)=true:=amh EH (by simp[n7,en]);have s:AZ (ux S)=true:=by exact aj0
 have base:∀b x,(b,x)∈mZ->∃p e vs,x=.aC e vs/\σ b=some p/\e≠138/\(∃arr bg,w.heap[p.aU]? =some (.cells arr e bg))/\io (ρ.at w) σ p w.heap[p.aU]? (.aC e vs):=fun b x an=>by exact ajK
 have oI:∀b x,(gU ⟨.e,22⟩ (ux S)).cK b=some x->(b,x)∈mZ∨(b=21/\x=.aC 138 (q3 S.bs)):=fun b x A=>by exact ajE
 have VR:mB w ed=arr:=by simp[mB,l0]
 have xV:pF w ed=bg:=by simp[pF,l0]
 have u:c6 (ρ.at w) j1 (gU ⟨.e,22⟩ (ux S)) w:=by exact ajS
 have R:jE prog j1:=fun g V=>by obtain⟨n,D⟩:=C g V;exact⟨n,X _ _ D⟩
 have N:bU (ρ.at w) j1 [om r.op,om r.aF,zg,.slice 21 0 S.bs.length 2 none]=some [.string r.op,.string r.aF,bp,.slice (some ⟨ed,o,none⟩) S.bs.length cc]:=by exact ai0
 have G:∃a k h,aan S r=some (.tup [a,.int .i64 k,.int .i64 (.ofNat 0)],h)/\pH h (ux S)=true/\PO h a j=true:=by
  unfold fv at d;split at d
  ·rename_i U;simp only[dz]at d;exact⟨_,_,_,U,d.1,d.2⟩
  ·cases d
 obtain⟨a,k,W,Q,P,T⟩:=G;refine(ym follows (ρ:=ρ.at w) M (lp.sY vC) wk afi R N j' s u Q P).mono ?_;rintro e w' ⟨c,σ',rfl,l⟩;refine⟨?_,l.b⟩;have J:=l.v;simp only[aE,ig]at J;obtain⟨x,f,rfl⟩:=J;simp only[bU]at f;cases m:aE (ρ.at w) σ' a with
 |none=>rw[m]at f;simp at f
 |some y=>rw[m]at f;simp only[aE,cb]at f;subst f;obtain⟨B,ac,rfl,O⟩:=axi l.h T m;exact⟨B,ac,k,rfl,O⟩
def oK:ByteArray:=⟨#[112,114,105,99,101,115]⟩
def no:ByteArray:=⟨#[99,111,100,101]⟩
def nF:ByteArray:=⟨#[112,114,105,99,101]⟩
def wO:ByteArray:=⟨#[110,97,109,101]⟩
def Eg:K:=.agg [.str [112,114,105,99,101,115],.slice 13 0 3 1 none,.slice 18 0 2 1 none]
def afn(x:Option (K×ay)):Bool:=match x with
 |some (.tup [v,.bool true],h)=>K.beq v Eg&&pH h mZ
 |_=>false
def amU(x:Option (K×ay)):Bool:=match x with
 |some (.bool true,h)=>pH h mZ
 |_=>false
theorem ato:i_ 169=none:=au
theorem atq:i_ 282=none:=au
theorem atB:afn ((iC prog i_ jY.find 300).call 169 [zg,.str [112,114,105,99,101,115]] (gU ⟨.e,21⟩ mZ))=true:=au
theorem aBk:amU ((iC prog i_ jY.find 300).call 282 [Eg] (gU ⟨.e,21⟩ mZ))=true:=au
theorem adL{w:World}{ρ:b4}{σ:bl}{h:ay}(a:c6 ρ σ h w)(u:h.nx=21)(d:Hq h mZ=true):c6 (ρ.at w) σ (gU ⟨.e,21⟩ mZ) w:=by
 have n:∀b,21<=b->σ b=none:=fun b A=>a.jy b z;refine⟨fun b x A=>?_,fun b j x q p g A l ag k m=>?_,fun b A=>n b (by rw[B0]at A;exact A)⟩
 ·obtain⟨e,vs,t,wr,rfl,c⟩:=yl d (yi EH A);obtain⟨p,ag,i⟩:=a.aU b _ c;exact⟨p,ag,Yt i⟩
 ·obtain⟨e,vs,t,wr,rfl,c⟩:=yl d (yi EH A);obtain⟨r,y,s,o,rfl,f⟩:=yl d (yi EH l);exact a.inj b j _ _ p g c f ag k m
def Ng(w:World)(c:Value):Prop:=∃ca cc ra rc,c=.agg #[.string oK,.slice ca 3 cc,.slice ra 2 rc]/\he be w ca [no,nF,wO]/\hW be (aY be 0) w ra [[g8 ⟨#[65]⟩,gi 25 1,g8 ⟨#[97,112,112,108,101]⟩],[g8 ⟨#[66]⟩,gi 3 0,g8 ⟨#[98,114,101,97,100]⟩]]
theorem Ng.U{w w':World}{c:Value}(h:Ng w c)(A:Below w.heap.size w w'):Ng w' c:=by
 obtain⟨ca,cc,ra,rc,e,H,I⟩:=h;exact⟨ca,cc,ra,rc,e,H.U A,hW.U (aY.mono be 0) I A⟩
theorem QV{w:World}{ρ:b4}{σ:bl}{h:ay}(f:c6 ρ σ h w)(l:Hq h mZ=true){b e:Nat}{vs:List K}(d:(b,em.aC e vs)∈mZ):∃p cs,σ b=some p/\p.aU<w.heap.size/\bU ρ σ vs=some cs/\∀i,i<vs.length->w.cell? ⟨p.aU,p.dA+i,none⟩=cs[i]? :=by
 obtain⟨m,n,t,wr,ak,k⟩:=yl l d;injection ak with ak a
 subst ak;subst a;obtain⟨p,arr,bg,cs,ag,c,_,_,_,g,j,_⟩:=f.cells k;exact⟨p,cs,ag,(hl.1 c).1,g,j⟩
theorem alg{w:World}{b o:Nat}{cs:List Value}{c1 c3:ByteArray}{N S:Int}(c:b<w.heap.size)(a:∀i,i<21->w.cell? ⟨b,o+i,none⟩=cs[i]?)(e:cs=[.int .i64 1,.string c1,.int .i64 0,.int .i64 0,.int .i64 0,.slice none 0 0,.slice none 0 0,.int .i64 2,.string bL,.int .i64 N,.int .i64 S,.int .i64 0,.slice none 0 0,.slice none 0 0,.int .i64 1,.string c3,.int .i64 0,.int .i64 0,.int .i64 0,.slice none 0 0,.slice none 0 0]):cU be (aY be 0) w (some ⟨b,o,none⟩) [g8 c1,gi N S,g8 c3]:=by
 subst e;refine⟨am,fun _=>⟨b,o,rfl,h5,c,fun j d=>?_⟩⟩
 match j,d with
 |0,_=>exact⟨1,c1,0,0,0,none,0,0,none,0,0,aY.iE be 0 w 1 c1 0 0 0 none 0 none 0,a 0 z,a 1 z,a 2 z,a 3 z,a 4 z,a 5 z,a 6 z⟩
 |1,_=>exact⟨2,bL,N,S,0,none,0,0,none,0,0,aY.iE be 0 w 2 bL N S 0 none 0 none 0,a 7 z,a 8 z,a 9 z,a 10 z,a 11 z,a 12 z,a 13 z⟩
 |2,_=>exact⟨1,c3,0,0,0,none,0,0,none,0,0,aY.iE be 0 w 1 c3 0 0 0 none 0 none 0,a 14 z,a 15 z,a 16 z,a 17 z,a 18 z,a 19 z,a 20 z⟩
theorem aq6(w:World)(k:Value)(X:lq w k):∃c,Ng w c/\(∀W,Below w.heap.size w W->Calls prog 169 #[k,.string oK] W fun e w'=>e=.returned (.tuple #[c,.bool true])/\Below W.heap.size W w')/\(∀W,Below w.heap.size w W->Calls prog 282 #[c] W fun e w'=>py e/\Below W.heap.size W w'):=by
 obtain⟨ρ,σ,h,A,z,d,B,g,E⟩:=X;obtain⟨x,ab,D,S,s,F⟩:=QV d g (b:=13) (e:=9) (vs:=[.str [99,111,100,101],.str [112,114,105,99,101],.str [110,97,109,101]]) (by simp[mZ]);obtain⟨akY,Df,Z,T,t,N⟩:=QV d g (b:=16) (e:=44) (vs:=_) (by unfold mZ;exact i6 _ (mQ ..));obtain⟨af,ad,P,U,u,O⟩:=QV d g (b:=17) (e:=44) (vs:=_) (by unfold mZ;exact i6 _ (i6 _ (mQ ..)));obtain⟨y,ae,Q,V,l,r⟩:=QV d g (b:=18) (e:=45) (vs:=_) (by unfold mZ;exact i6 _ (i6 _ (i6 _ (mQ ..))));simp[bU,aE,fz]at s;simp[bU,aE,fz]at t;simp[bU,aE,fz]at u;simp[bU,aE,Z,P]at l;have G:∃ca cc ra rc,aE ρ σ Eg=some (.agg #[.string oK,.slice ca 3 cc,.slice ra 2 rc])/\he be w ca [no,nF,wO]/\hW be (aY be 0) w ra [[g8 ⟨#[65]⟩,gi 25 1,g8 ⟨#[97,112,112,108,101]⟩],[g8 ⟨#[66]⟩,gi 3 0,g8 ⟨#[98,114,101,97,100]⟩]]:=by
  refine⟨some ⟨x.aU,x.dA,none⟩,_,some ⟨y.aU,y.dA,none⟩,_,by simp[Eg,aE,bU,fz,D,Q,oK];exact⟨rfl,rfl⟩,⟨am,fun _=>⟨_,_,rfl,h5,S,fun i hi=>?_⟩⟩,⟨am,fun _=>⟨_,_,rfl,h5,V,fun i hi=>?_⟩⟩⟩
  ·have hi:i<3:=hi;rw[F i (by simpa using hi),←s]
   match i,hi with
   |0,_=>rfl
   |1,_=>rfl
   |2,_=>rfl
  ·have hi:i<2:=hi
   match i,hi with
   |0,_=>exact⟨_,_,by rw[r 0 am,←l];rfl,alg T (fun j m=>N j (by simpa using m)) t.symm⟩
   |1,_=>exact⟨_,_,by rw[r 1 am,←l];rfl,alg U (fun j m=>O j (by simpa using m)) u.symm⟩
 obtain⟨ca,cc,ra,rc,C,L,M⟩:=G;refine⟨_,⟨ca,cc,ra,rc,rfl,L,M⟩,fun W n=>?_,fun W n=>?_⟩
 ·have hrel:=adL (d.U n) B g;have a:=atB;unfold afn at a;split at a
  ·rename_i v Y q;simp only[dz]at a;obtain⟨H,I⟩:=a;obtain rfl:=K.beq_eq H;have o:bU (ρ.at W) σ [zg,.str [112,114,105,99,101,115]]=some [k,.string oK]:=by
    have H:aE (ρ.at W) σ zg=some k:=by rw[FY (ρ:=ρ.at W) (ρ':=ρ) rfl];exact E
    simp only[bU,H];simp[aE,fz,oK]
   refine(ym follows (ρ:=ρ.at W) A (lp.sY vC) wk ato z o EH au hrel q I).mono ?_;rintro e w' ⟨c,σ',rfl,f⟩;refine⟨?_,f.b⟩;have J:=f.v;have R:aE (ρ.at W) σ' Eg=some (.agg #[.string oK,.slice ca 3 cc,.slice ra 2 rc]):=by rw[FY (ρ:=ρ.at W) (ρ':=ρ) rfl];exact tT f.ext C
   simp only[aE,bU]at J;rw[R]at J;simp at J;rw[←J]
  ·cases a
 ·have hrel:=adL (d.U n) B g;have a:=aBk;unfold amU at a;split at a
  ·rename_i Y q;have o:bU (ρ.at W) σ [Eg]=some [.agg #[.string oK,.slice ca 3 cc,.slice ra 2 rc]]:=by
    have H:aE (ρ.at W) σ Eg=some (.agg #[.string oK,.slice ca 3 cc,.slice ra 2 rc]):=by rw[FY (ρ:=ρ.at W) (ρ':=ρ) rfl];exact C
    simp only[bU,H]
   refine(ym follows (ρ:=ρ.at W) A (lp.sY vC) wk atq z o EH au hrel q a).mono ?_;rintro e w' ⟨c,σ',rfl,f⟩;refine⟨?_,f.b⟩;have J:=f.v;simp only[aE,cb]at J;rw[←J];rfl
  ·cases a
end Go.b3
namespace Go.b3
open Go Go.Proofs.Tryz Go.Proofs Go.RowKit Go.Lib Go.aI
theorem alf{w:World}{c:Option Addr}{c1 c3:ByteArray}{N S:Int}(h:cU be (aY be 0) w c [g8 c1,gi N S,g8 c3]):∃a b f g j e l o m n,c=some ⟨a,b,none⟩/\a<w.heap.size/\tH w a b (.int .i64 1) (.string c1) (.int .i64 0) (.int .i64 0) (.int .i64 0) (.slice f 0 g) (.slice j 0 e)/\tH w a (b+7) (.int .i64 2) (.string bL) (.int .i64 N) (.int .i64 S) (.int .i64 0) (.slice l 0 o) (.slice m 0 n):=by
 obtain⟨a,b,rfl,_,q,k⟩:=h.2 am;obtain⟨J,bX,L,M,K,f,u,g,j,A,e,s,i⟩:=k 0 am;obtain⟨ce,G,H,F,I,l,O,o,m,P,n,r,d⟩:=k 1 am;obtain⟨_,x,t,y,z,eg,_⟩:=s;obtain⟨_,B,C,D,E,ak,_⟩:=r;injection eg with eg
 injection ak with ak
 simp only[pk,EW,EX,Cl,Cz,yS]at eg ak;obtain⟨rfl,rfl,rfl,rfl,rfl,⟨rfl,rfl,rfl⟩,rfl,rfl,rfl⟩:=eg;obtain⟨rfl,rfl,rfl,rfl,rfl,⟨rfl,rfl,rfl⟩,rfl,rfl,rfl⟩:=ak;simp only[tw,hG,M2,yO]at i d;exact⟨a,b,_,_,_,_,_,_,_,_,rfl,q,i,d⟩
theorem arP{x:Int}(h:(∃(k:Nat) (b:k<[no,nF,wO].length),x=k/\[no,nF,wO][k]=no)∨(x= -1/\no∉[no,nF,wO])):x=0:=by
 rcases h with⟨k,b,rfl,a⟩|⟨_,a⟩
 ·match k,b with
  |0,_=>rfl
  |1,_=>exact absurd a (show nF≠no by decide)
  |2,_=>exact absurd a (show wO≠no by decide)
 ·exact absurd am a
theorem arR{x:Int}(h:(∃(k:Nat) (b:k<[no,nF,wO].length),x=k/\[no,nF,wO][k]=nF)∨(x= -1/\nF∉[no,nF,wO])):x=1:=by
 rcases h with⟨k,b,rfl,a⟩|⟨_,a⟩
 ·match k,b with
  |0,_=>exact absurd a (show no≠nF by decide)
  |1,_=>rfl
  |2,_=>exact absurd a (show wO≠nF by decide)
 ·exact absurd am a
structure Fs (w:World) (F aG:Array Value) (wr:World):Prop where
 b:Below w.heap.size w wr
 g:wr.heap[w.heap.size]? =some (.cells F 96 (0,0))
 l:wr.heap[w.heap.size+1]? =some (.cells aG 44 (0,0))
 o:wr.heap[w.heap.size+1+1]? =some (.cells fi 44 (0,0))
theorem Fs.U{w wr w':World}{F a:Array Value}(h:Fs w F a wr)(A:Below wr.heap.size wr w'):Fs w F a w':=
 ⟨b_ h.b A,by rw[A.block _ (b1 h.g)];exact h.g,by rw[A.block _ (b1 h.l)];exact h.l,by rw[A.block _ (b1 h.o)];exact h.o⟩
theorem Fs.g7(w:World)(F a:Array Value):Fs w F a (((w.alloc (.cells F 96)).alloc (.cells a 44)).alloc (.cells fi 44)):=by
 obtain⟨H,I,c,b⟩:=Mt w (.cells F 96) (.cells a 44) (.cells fi 44);exact⟨H,I,c,b⟩
theorem atA{m:Nat}(an:1<=m)(w:World)(c:Value)(eY:Ng w c)(dV:∀W,Below w.heap.size w W->Calls prog 282 #[c] W fun e w'=>py e/\Below W.heap.size W w')(bX:ByteArray)(A B:Option Addr)(C D:Nat): Calls prog 495 #[c,.string no,.agg (bY 1 bX 0 0 0 A 0 C B 0 D),.string nF] w fun e w'=>eS w.heap.size m e w'/\Below w.heap.size w w':=by
 obtain⟨ca,cc,ra,rc,rfl,hP,s7⟩:=eY;have H:=G (Fs.g7 w #[.string oK,.slice ca 3 cc,.slice ra 2 rc] (bY 1 bX 0 0 0 A 0 C B 0 D));have bk:=G dV;have bK:=G fun W (ar:Below w.heap.size w W) s=>WR W ca cc [no,nF,wO] s (hP.U ar);obtain⟨cJ,lU,rfl,_,o,V⟩:=s7.2 am;obtain⟨ae,ag,Y,iu⟩:=V 0 am;obtain⟨af,ah,S,h_⟩:=V 1 am;obtain⟨lE,cp,iT,iV,iv,i4,k',la,kB,kC,rfl,f,q,r⟩:=alf iu;obtain⟨g2,aW,Z,Dd,z_,z',TM,TP,Yc,Yg,rfl,d,u,y⟩:=alf h_;simp only[yN,E1,hG,mP,yO,gm,Nat.reduceAdd]at Y S;have aa:=G fun W=>WY 0 0 W (bY 1 ⟨#[65]⟩ 0 0 0 iT 0 iV iv 0 i4) (bY 1 bX 0 0 0 A 0 C B 0 D) (g8 ⟨#[65]⟩) _ (aY.iE be 0 W 1 ⟨#[65]⟩ 0 0 0 iT iV iv i4) (aY.iE be 0 W 1 bX 0 0 0 A C B D);have ab:=G fun W=>WY 0 0 W (bY 1 ⟨#[66]⟩ 0 0 0 Z 0 Dd z_ 0 z') (bY 1 bX 0 0 0 A 0 C B 0 D) (g8 ⟨#[66]⟩) _ (aY.iE be 0 W 1 ⟨#[66]⟩ 0 0 0 Z Dd z_ z') (aY.iE be 0 W 1 bX 0 0 0 A C B D);clear dV hP s7 V iu h_;go_enter func495,ntmps495;go_upto_region 1 with fail
 generalize (((w.alloc (.cells #[.string oK,.slice ca 3 cc,.slice (some ⟨cJ,lU,none⟩) 2 rc] 96)).alloc (.cells (bY 1 bX 0 0 0 A 0 C B 0 D) 44)).alloc (.cells fi 44))=ap at H⊢;have E:=H.out;obtain⟨ft,dS,eo⟩:=wj E.g;have gY:=b1 E.g;have aO:=E.b;clear E;go_upto_region 4 with(go_at_call 282;refine(bk.out _ aO).mono ?_;rintro e L ⟨rfl,bm⟩)
 have n:=G (H.out.U bm);have b6:=aS 1 n.out.g;have b2:=b1 n.out.g;have k:=n.out.b;clear ft dS eo gY H aO bm;go_upto_region 5 with(go_at_call 573;refine(bK.out _ k _).mono ?_;rintro e bz ⟨⟨x,rfl,K⟩,rfl⟩;obtain rfl:=arP K)
 go_upto_region 8 with(go_at_call 573;refine(bK.out _ k _).mono ?_;rintro e bz ⟨⟨x,rfl,K⟩,rfl⟩;obtain rfl:=arR K)
 go_wp2;have F:=aS 2 n.out.g;obtain⟨u0,u1,u2,u3,u4,u5,u6⟩:=eU n.out.l;have cL:=b1 n.out.l;have fu:=aA k o Y;have N:=cE k o;have R:=aA k f q.br;have Q:=aA k f q.c1;have P:=aA k f q.c2;have O:=aA k f q.c3;have T:=aA k f q.c4;have U:=aA k f q.c5;have X:=aA k f q.fk;have I:=cE k f;refine Cm 3 ?_;rw[rx]
 go_wp2;go_still_tail 9,au;change wpList _ _ _ _ _ L.drew;have iR:=G (n.out.U (lK L));clear fu R Q P O T U X u0 u1 u2 u3 u4 u5 u6 b2 cL b6 F N I k n;generalize L.drew=bz at*;go_upto_region 12 with(go_at_call 574;refine(aa.out _).mono ?_;rintro e M ⟨⟨jX,rfl⟩,g⟩;have j:=G (iR.out.U g);clear g iR)
 cases jX with
 |true=>
  have a:=j.out.b;have aJ:=aS 2 j.out.g;have le:=b1 j.out.g;have lM:=aA a o Y;have Ls:=cE a o;have ad:=cE a f;have hX:=aA a f r.br;have et:=aA a f r.c1;have fA:=aA a f r.c2;have hL:=aA a f r.c3;have lV:=aA a f r.c4;have np:=aA a f r.c5;have q4:=aA a f r.fk;obtain⟨gC,c_,dL,fU,gE,gM,gT⟩:=eU j.out.o;obtain⟨z0,cy,dv,z3,z4,z5,eP⟩:=gI j.out.o
  go_wp2;refine fL (jp (fn:=f495) rfl _ _ (w.heap.size+1+1) 44 _ (0,0) _ _ rfl rfl (h3 j.out.o _ _ _ _ _ _ _) underlying44 rfl iJ) rfl ?_;exact⟨eS.some _ _ _ (aY.iE _ 1 _ 2 bL _ _ 0 _ _ _ _) (.gi 25 1 ⟨am,am,z,z,.inr ai⟩ (by
   have:10^3<=10^(2*m+1):=ks z z
   simp only[Int.natAbs]
   omega) z),ib j.out.b z _ _ _ _ _ _ _⟩
 |false=>
  have g:=j.out.b;have F:=aS 2 j.out.g;have b2:=b1 j.out.g;obtain⟨u0,u1,u2,u3,u4,u5,u6⟩:=eU j.out.l;have cL:=b1 j.out.l;have fu:=aA g o S;have N:=cE g o;have R:=aA g d u.br;have Q:=aA g d u.c1;have P:=aA g d u.c2;have O:=aA g d u.c3;have T:=aA g d u.c4;have U:=aA g d u.c5;have X:=aA g d u.fk;have I:=cE g d
  go_wp2;rw[rx]
  go_wp2;go_still_tail 9,au;change wpList _ _ _ _ _ M.drew;have k_:=G (j.out.U (lK M));clear fu R Q P O T U X u0 u1 u2 u3 u4 u5 u6 b2 cL F N I g j;generalize M.drew=a' at*;go_upto_region 12 with(go_at_call 574;refine(ab.out _).mono ?_;rintro e bq ⟨⟨yk,rfl⟩,dl⟩;have l:=G (k_.out.U dl);clear dl k_)
  cases yk with
  |true=>
   have a:=l.out.b;have aJ:=aS 2 l.out.g;have le:=b1 l.out.g;have lM:=aA a o S;have Ls:=cE a o;have ad:=cE a d;have hX:=aA a d y.br;have et:=aA a d y.c1;have fA:=aA a d y.c2;have hL:=aA a d y.c3;have lV:=aA a d y.c4;have np:=aA a d y.c5;have q4:=aA a d y.fk;obtain⟨gC,c_,dL,fU,gE,gM,gT⟩:=eU l.out.o;obtain⟨z0,cy,dv,z3,z4,z5,eP⟩:=gI l.out.o
   go_wp2;refine fL (jp (fn:=f495) rfl _ _ (w.heap.size+1+1) 44 _ (0,0) _ _ rfl rfl (h3 l.out.o _ _ _ _ _ _ _) underlying44 rfl iJ) rfl ?_;exact⟨eS.some _ _ _ (aY.iE _ 1 _ 2 bL _ _ 0 _ _ _ _) (.gi 3 0 ⟨am,am,z,z,.inl rfl⟩ (by
    have:10^3<=10^(2*m+1):=ks z z
    simp only[Int.natAbs]
    omega) z),ib l.out.b z _ _ _ _ _ _ _⟩
  |false=>
   have F:=aS 2 l.out.g;have b2:=b1 l.out.g;obtain⟨gC,c_,dL,fU,gE,gM,gT⟩:=eU l.out.o;obtain⟨z0,cy,dv,z3,z4,z5,eP⟩:=gI l.out.o
   go_wp2;rw[rx]
   go_wp2;refine fL (jp (fn:=f495) rfl _ _ (w.heap.size+1+1) 44 _ (0,0) _ _ rfl rfl (h3 l.out.o _ _ _ _ _ _ _) underlying44 rfl iJ) rfl ?_;exact⟨eS.none _ _ _ 18 ai ai,ib l.out.b z _ _ _ _ _ _ _⟩
end Go.b3
namespace Go.b3
open Go Go.Proofs.Tryz Go.Proofs Go.RowKit Go.Lib Go.aI
open Go.bj.N (lq)
theorem aDn(r:Nat)(S fn dn ds:Int)(P:Option Addr)(fR R:Nat)(m:Nat)(an:1<=m)(bX:ByteArray)(w:World)(bW aP:Option Addr)(ac:Nat)(M:Value)(bG:lq w M)(aw:he be w bW [oK,no,nF])(h:cU be (aY be 1) w aP [g8 bX]): Calls prog 374 #[.string ⟨#[108,111,111,107,117,112]⟩,.agg (eM bW 3 r S fn dn ds P fR R),M,.slice aP 1 ac] w fun e w'=>eS w.heap.size m e w'/\Below w.heap.size w w':=by
 have uY:((⟨#[108,111,111,107,117,112]⟩:ByteArray).toList==(⟨#[108,111,111,107,117,112]⟩:ByteArray).toList)=true:=qc _;obtain⟨b,o,rfl,A,B,D,C,E,ab⟩:=Je h;obtain⟨c,eY,Gy,aa⟩:=aq6 w M bG;have bk:=G Gy;have bK:=G fun W (ar:Below w.heap.size w W)=>atA (m:=m) an W c (eY.U ar) (fun aT fl=>aa aT (b_ ar fl)) bX B C D E;obtain⟨ca,cc,ra,rc,rfl,_⟩:=eY;obtain⟨g,gZ,rfl,_,s,F⟩:=aw.2 am;have Q:=F 0 am;have N:=F 1 am;have T:=F 2 am;simp only[yN,E1,hG]at Q N T;have n:=G (o0.g7 w (eM (some ⟨g,gZ,none⟩) 3 r S fn dn ds P fR R) 222);clear h F aw Gy aa bG;go_enter func374,ntmps374;go_upto_region 1 with fail
 generalize ((w.alloc (.cells (eM (some ⟨g,gZ,none⟩) 3 r S fn dn ds P fR R) 222)).alloc (.cells fi 44))=ap at n⊢;have x:=n.out.b;have fj:=aS 0 n.out.g;have zU:=b1 n.out.g;have hR:=aA x s Q;have ad:=cE x s;go_upto_region 4 with(go_at_call 169;refine(bk.out _ x).mono ?_;rintro e q ⟨rfl,d⟩)
 have U:=n.out.U d;have u:=G (U.U (fH q (.cells #[.string oK,.slice ca 3 cc,.slice ra 2 rc] 96)));have O:=da q (.cells #[.string oK,.slice ca 3 cc,.slice ra 2 rc] 96);have kx:w.heap.size+1<q.heap.size:=b1 U.o;clear fj zU hR ad x d n U;generalize q.heap.size=j at*;generalize (q.alloc (.cells #[.string oK,.slice ca 3 cc,.slice ra 2 rc] 96))=a at*;have f:=u.out.b;obtain⟨br,c1,c2⟩:=wj O;have c3:a.cell? ⟨w.heap.size,0,none⟩=some (.slice (some ⟨g,gZ,none⟩) 3 r):=aS 0 u.out.g;have c4:a.cell? ⟨g,gZ+1,none⟩=some (.string no):=aA f s N;have c5:a.cell? ⟨b,o,none⟩=some (.int .i64 1):=aA f A ab.br;have fk:a.cell? ⟨b,o+1,none⟩=some (.string bX):=aA f A ab.c1;have X:a.cell? ⟨b,o+2,none⟩=some (.int .i64 0):=aA f A ab.c2;have V:a.cell? ⟨b,o+3,none⟩=some (.int .i64 0):=aA f A ab.c3;have Y:a.cell? ⟨b,o+4,none⟩=some (.int .i64 0):=aA f A ab.c4;have Z:a.cell? ⟨b,o+5,none⟩=some (.slice B 0 D):=aA f A ab.c5;have H:a.cell? ⟨b,o+6,none⟩=some (.slice C 0 E):=aA f A ab.fk;have I:a.cell? ⟨g,gZ+2,none⟩=some (.string nF):=aA f s T;have sP:a.drew.cell? ⟨j,0,none⟩=some (.string oK):=br;have sQ:a.drew.cell? ⟨j,1,none⟩=some (.slice ca 3 cc):=c1;have rW:a.drew.cell? ⟨j,2,none⟩=some (.slice ra 2 rc):=c2;have uQ:a.drew.cell? ⟨w.heap.size,0,none⟩=some (.slice (some ⟨g,gZ,none⟩) 3 r):=c3;have Jp:a.drew.cell? ⟨g,gZ+1,none⟩=some (.string no):=c4;have Jq:a.drew.cell? ⟨b,o,none⟩=some (.int .i64 1):=c5;have Jr:a.drew.cell? ⟨b,o+1,none⟩=some (.string bX):=fk;have Js:a.drew.cell? ⟨b,o+2,none⟩=some (.int .i64 0):=X;have Jt:a.drew.cell? ⟨b,o+3,none⟩=some (.int .i64 0):=V;have Ju:a.drew.cell? ⟨b,o+4,none⟩=some (.int .i64 0):=Y;have Jn:a.drew.cell? ⟨b,o+5,none⟩=some (.slice B 0 D):=Z;have TH:a.drew.cell? ⟨b,o+6,none⟩=some (.slice C 0 E):=H;have TI:a.drew.cell? ⟨g,gZ+2,none⟩=some (.string nF):=I;have k:w.heap.size+1≠b:=z;have wP:w.heap.size+1≠w.heap.size:=z;have G':w.heap.size+1≠g:=z;have L:w.heap.size+1≠j:=z;have iq:=cE f A;have zB:=cE f s;have iZ:=b1 u.out.g;have s5:=b1 O;have l:=G iq;have Fe:=G zB;have hU:=G iZ;have K:=G s5;have i7:=G f.drew;have rI:=G (u.out.U (lK a));have dN:w.heap.size+1<a.heap.size:=b1 u.out.o;clear f A s Q N T ab O
 go_region_held3 (fun aT=>aT.cell? ⟨j,0,none⟩=some (.string oK)/\aT.cell? ⟨j,1,none⟩=some (.slice ca 3 cc)/\aT.cell? ⟨j,2,none⟩=some (.slice ra 2 rc)/\aT.cell? ⟨w.heap.size,0,none⟩=some (.slice (some ⟨g,gZ,none⟩) 3 r)/\aT.cell? ⟨g,gZ+1,none⟩=some (.string no)/\aT.cell? ⟨b,o,none⟩=some (.int .i64 1)/\aT.cell? ⟨b,o+1,none⟩=some (.string bX)/\aT.cell? ⟨b,o+2,none⟩=some (.int .i64 0)/\aT.cell? ⟨b,o+3,none⟩=some (.int .i64 0)/\aT.cell? ⟨b,o+4,none⟩=some (.int .i64 0)/\aT.cell? ⟨b,o+5,none⟩=some (.slice B 0 D)/\aT.cell? ⟨b,o+6,none⟩=some (.slice C 0 E)/\aT.cell? ⟨g,gZ+2,none⟩=some (.string nF)) (first|with_reducible exact⟨br,c1,c2,c3,c4,c5,fk,X,V,Y,Z,H,I⟩|with_reducible exact⟨sP,sQ,rW,uQ,Jp,Jq,Jr,Js,Jt,Ju,Jn,TH,TI⟩|with_reducible exact⟨el,dk,dB,cN,ko,kp,nI,wZ,Cg,Ch,Cf,MF,MG⟩|with_reducible exact⟨(eW L).trans el,(eW L).trans dk,(eW L).trans dB,(eW wP).trans cN,(eW G').trans ko,(eW k).trans kp,(eW k).trans nI,(eW k).trans wZ,(eW k).trans Cg,(eW k).trans Ch,(eW k).trans Cf,(eW k).trans MF,(eW G').trans MG⟩|go_keep) (first
  |(go_at_call 495;refine(bK.out _ i7.out).mono ?_;rintro e q ⟨⟨eV,ph,y6,ae,na,TM,af,TP,Yc,ah,Yg,ag,rfl,ny,kM,lf⟩,d⟩;have y:=rI.out.U d;have el:=aA d K.out br;have dk:=aA d K.out c1;have dB:=aA d K.out c2;have cN:=aA d hU.out c3;have ko:=aA d Fe.out c4;have kp:=aA d l.out c5;have nI:=aA d l.out fk;have wZ:=aA d l.out X;have Cg:=aA d l.out V;have Ch:=aA d l.out Y;have Cf:=aA d l.out Z;have MF:=aA d l.out H;have MG:=aA d Fe.out I;obtain⟨gC,c_,dL,fU,gE,gM,gT⟩:=eU y.o;obtain⟨z0,cy,dv,z3,z4,z5,eP⟩:=gI y.o))
 go_wp2;refine fL (jp (fn:=f374) rfl _ _ (w.heap.size+1) 44 _ (0,0) _ _ rfl rfl (h3 y.o _ _ _ _ _ _ _) underlying44 rfl iJ) rfl ?_;exact⟨eS.put (base:=a.drew.heap.size) ⟨_,_,_,_,_,_,_,_,_,_,_,_,rfl,ny,kM,lf⟩ (show w.heap.size+1<a.heap.size from dN) (show w.heap.size<=a.heap.size by omega),ib y.b z _ _ _ _ _ _ _⟩
end Go.b3
namespace Go.b3
open Go Go.Proofs.Tryz Go.Proofs Go.RowKit Go.Lib Go.aI
def bH.kind:bH->Int|.mk k _ _ _ _ _ _=>k
def uH(a:List Nat)(l:List bH):Prop:=l.length=a.length/\∀i (H:i<l.length) (I:i<a.length),l[i].kind=(a[i]:Int)
def oh(a:List Nat)(l:List bH)(k:Nat):Prop:=∀i (H:i<l.length) (I:i<a.length),i<k->l[i].kind=(a[i]:Int)
theorem _root_.If.LP{w w':World}{b:Nat}{x:Obj}(h:w.heap[b]? =some x)(A:Below w.heap.size w w'):w'.heap[b]? =some x:=by rw[A.block _ (b1 h)];exact h
theorem oh.zero(a:List Nat)(l:List bH):oh a l 0:=fun i _ _ hi=>z
theorem oh.next{a:List Nat}{l:List bH}{k:Nat}(h:oh a l k)(H:k<l.length)(I:k<a.length)(b:l[k].kind=(a[k]:Int)):oh a l (k+1):=fun i _ _ hi=>by
 by_cases e:i=k
 ·subst e;exact b
 ·exact h i _ _ z
theorem oh.all{c:List Nat}{l:List bH}{k:Nat}(h:oh c l k)(H:l.length=c.length)(I:l.length<=k):uH c l:=⟨H,fun i a b=>h i a b z⟩
def jr:List ByteArray:=[⟨#[99,111,110,99,97,116]⟩,⟨#[117,112,112,101,114]⟩,⟨#[108,111,119,101,114]⟩,⟨#[116,114,105,109]⟩,⟨#[101,120,116,114,97,99,116]⟩,⟨#[108,101,110,103,116,104]⟩,⟨#[112,97,114,115,101]⟩,⟨#[114,101,97,100]⟩,⟨#[109,97,116,99,104]⟩]
def mM:List ByteArray:=[⟨#[108,111,111,107,117,112]⟩,⟨#[116,97,98,108,101]⟩,⟨#[119,104,101,114,101]⟩,⟨#[106,111,105,110]⟩,⟨#[112,105,99,107]⟩,⟨#[115,117,109]⟩,⟨#[99,111,117,110,116]⟩,⟨#[102,105,114,115,116]⟩]
theorem Mo(w:World)(l:List ByteArray)(h:l.length<=40):he be (w.alloc (.cells (l.map Value.string).toArray 9)) (some ⟨w.heap.size,0,none⟩) l:=
 ⟨h,fun _=>⟨_,_,rfl,h5,am,fun i hi=>by
  rw[gm]
  exact lb (da w _) (by simp[hi])⟩⟩
structure uA (w wr:World):Prop where
 b:Below w.heap.size w wr
 o:wr.heap[w.heap.size]? =some (.cells fi 44 (0,0))
theorem uA.U{w wr w':World}(h:uA w wr)(A:Below wr.heap.size wr w'):uA w w':=
 ⟨b_ h.b A,by rw[A.block _ (b1 h.o)];exact h.o⟩
theorem uA.g7(w:World):uA w (w.alloc (.cells fi 44)):=⟨(bi _ _).alloc (aZ _) _,da _ _⟩
theorem ol.U{w w':World}{a:Option Addr}{l:Nat}{o:Option Nat}(h:ol w a l o)(A:Below w.heap.size w w'):ol w' a l o:=by
 cases o with
 |none=>exact h
 |some n=>exact⟨h.1,h.2.U A⟩
theorem N0(m:Nat)(op aF:ByteArray)(dR:List Nat)(f:xa)(w:World)(T:Value)(ca:Option Addr)(cl cc:Nat)(eZ:Option Addr)(rl rc:Nat) (oe:∀W,Below w.heap.size w W->Calls prog 85 #[.string op,.string aF,T,.slice ca cl cc] W fun e w'=>AW dR e w'/\Below W.heap.size W w') (od:∀W,Calls prog 167 #[.string op,.string aF] W fun e w'=>AV f e w'/\Below W.heap.size W w') (Y:∀k∈dR,1<=k)(E:Option Addr)(ac:Nat)(l:List bH)(O:∀v∈l,∃n,eR n v)(h:cU be (aY be 1) w E l) (F8:(op.toList==[105,102])=false)(JY:(op.toList==[99,111,108])=false)(Oy:(op.toList==[116,101,120,116])=false)(Ut:(op.toList==[110,117,109,98,101,114])=false)(ad:(op.toList==[100,97,116,101])=false)(ab:(op.toList==[98,111,111,108])=false)(lH:op∈jr) (Z:uH dR l->∀W c j a d g,Below w.heap.size w W->he be W c f.bo->ol W a d f.p->Calls prog 373 #[.string op,.string aF,.agg (eM c f.bo.length j f.k f.n f.dn f.ds a d g),.slice E l.length ac] W fun e w'=>eS W.heap.size m e w'/\Below W.heap.size W w'): Calls prog 284 #[.string op,.string aF,.slice E l.length ac,T,.slice ca cl cc,.slice eZ rl rc] w fun e w'=>eS w.heap.size m e w'/\Below w.heap.size w w':=by
 have C:=G (uA.g7 w);have R:=G oe;have Q:=G od;have ps:=G Z;have pu:=G fun W (x:Below w.heap.size w W)=>(cU.U (aY.mono be 1) h x).2;have rG:=G O;have eN:=h.1;have y3:=G Y;have IK:=G lH;clear lH;clear oe od Z h O Y;go_enter func284,ntmps284;go_upto_region 1 with fail
 generalize w.alloc (.cells fi 44)=ap at C⊢;have P:=C.out.b;go_upto_region 2 with(go_at_call 85;refine(R.out _ P).mono ?_;rintro e ao ⟨⟨GZ,G0,G1,rfl,hN⟩,S⟩;generalize qn:dR.length=m_)
 have eK:=G (C.out.U S);clear R C P S;by_cases F:l.length=m_
 ·have eg:((l.length:Int) !=(m_:Int))=false:=by simp[F]
  have ha:=G fun W (x:Below ao.heap.size ao W)=>(hN.U x).2;clear hN
  go_wp2;go_loopw [20,21] (fun i _ wr=>∃k:Nat,k<=l.length/\i=.int .i64 k/\Below ao.heap.size ao wr/\oh dR l k) (fun i _ _=>l.length-(RowKit.intOf i).toNat);case atStart=>exact⟨0,dq _,rfl,bi _ _,oh.zero _ _⟩
  case round=>
   obtain⟨k,aa,rfl,bc,pG⟩:=hrel;have eG:=G (eK.out.U bc);by_cases aq:k<l.length
   ·exact G9
   ·have qj:uH dR l:=pG.all (F.trans qn.symm) z;have dN:=bc.size;clear pG ha pu rG eK bc;go_upto_region 22 with(go_at_call 167;refine(Q.out _).mono ?_;rintro e u ⟨⟨c,j,a,d,g,rfl,oB,o'⟩,bC⟩)
    have k_:=eG.out.U bC;have s:=G (k_.U (fH u (.cells (eM c f.bo.length j f.k f.n f.dn f.ds a d g) 222)));have r:=da u (.cells (eM c f.bo.length j f.k f.n f.dn f.ds a d g) 222);have A:=G (oB.U (fH u (.cells (eM c f.bo.length j f.k f.n f.dn f.ds a d g) 222)));have B:=G (ol.U o' (fH u (.cells (eM c f.bo.length j f.k f.n f.dn f.ds a d g) 222)));clear k_ bC eG oB o' Q;generalize u.heap.size=iD at*;generalize u.alloc (.cells (eM c f.bo.length j f.k f.n f.dn f.ds a d g) 222)=y at*;replace r:=G r;go_upto_region 39 with fail
    have N:he be (y.alloc (.cells (jr.map Value.string).toArray 9)) (some ⟨y.heap.size,0,none⟩) jr:=Mo y jr ai;have M:=G (Jd _ _ 9 jr op N true ⟨fun _=>IK.out,fun _=>rfl⟩);have t:=G (fun(W:World) (e:y.alloc (.cells (jr.map Value.string).toArray 9)=W)=>e▸fH y (.cells (jr.map Value.string).toArray 9));clear N;go_upto_region 40 with(go_at_call 372;refine(M.out).mono ?_;rintro e w7 ⟨rfl,x⟩;replace t:=G (t.out _ x);clear x M)
    have L:=G (s.out.U t.out);have I:=G (If.LP r.out t.out);have J:=G (A.out.U t.out);have K:=G (ol.U B.out t.out);clear t s r A B;have s:=L;have r:=I;have A:=J;have B:=K;clear L I J K;obtain⟨lE,g2,hg,q6,u',f5⟩:=fZ r.out;have D:=ps.out qj w7 c j a d g s.out.b A.out B.out;rw[F]at D;replace D:=G D;have x4:w.heap.size<=w7.heap.size:=s.out.b.size;have lg:w.heap.size<w7.heap.size:=b1 s.out.o;clear ps A B r qj dN
    go_wp2_with (go_at_call 373;(with_reducible refine D.out.mono ?_);rintro e yz ⟨⟨hY,bB,lz,lA,j7,lW,lB,lX,lY,lD,lZ,err,rfl,ny,kM,lf⟩,nu⟩;have X:=G (s.out.U nu);have H:=X.out.o;obtain⟨gC,c_,dL,fU,gE,gM,gT⟩:=eU H;obtain⟨z0,cy,dv,z3,z4,z5,eP⟩:=gI H);refine fL (jp (fn:=f284) rfl _ _ w.heap.size 44 _ (0,0) _ _ rfl rfl (h3 H _ _ _ _ _ _ _) underlying44 rfl iJ) rfl ?_;exact⟨eS.put (base:=w7.heap.size) ⟨_,_,_,_,_,_,_,_,_,_,_,_,rfl,ny,kM,lf⟩ lg x4,ib X.out.b z _ _ _ _ _ _ _⟩
 ·exact Ei
def acV(e:Ending):Prop:=∃b:Bool,e=.returned (.bool b)
attribute [local irreducible] wpStill in
theorem atE(cs:List (ByteArray×Nat))(l:List bH)(w:World)(ca ra:Option Addr)(cc rc:Nat)(P:Go.c0.iM w ca cs)(eN:cs.length<=8)(t:∀v∈l,∃n,eR n v)(h:cU be (aY be 1) w ra l): Calls prog 366 #[.slice ca cs.length cc,.slice ra l.length rc] w fun e w'=>acV e/\Below w.heap.size w w':=by
 obtain⟨m,B,arr,bg,rfl,A,s⟩:=P;have R:=G fun W (g:Below w.heap.size w W) k (u:k<cs.length)=>(show W.cell? ⟨m,B+k*2+1,none⟩=some (.int .i64 cs[k].2) by rw[World.cell?,g.block _ (b1 A),A];simp[(s k u).2]);have ab:m<w.heap.size:=b1 A;have V:=G fun W (g:Below w.heap.size w W)=>(cU.U (aY.mono be 1) h g).2;have X:=G t;clear A s h t;go_enter func366,ntmps366;by_cases j:cs.length=l.length
 ·have eg:((cs.length:Int) !=(l.length:Int))=false:=by simp[j]
  have O:=G j;clear j
  go_wp2;go_loopw [5,6] (fun i _ wr=>∃k:Nat,k<=l.length/\i=.int .i64 k/\Below w.heap.size w wr) (fun i _ _=>l.length-(RowKit.intOf i).toNat);case atStart=>exact⟨0,dq _,rfl,bi _ _⟩
  case round=>
   obtain⟨k,u,rfl,b⟩:=hrel;by_cases aq:k<l.length
   ·have Y:k<cs.length:=by have:=O.out;omega
    obtain⟨x,M,rfl,_,E,D⟩:=V.out _ b z;obtain⟨ce,cg,ci,cY,cz,k',tR,la,kB,ut,kC,ag,a⟩:=D k aq;obtain⟨Z,I⟩:=X.out _ (fM aq);have r:=G (Yp I _ _ ag);have C:=a.br;have L:=a.c1;have N:=a.c2;have Q:=a.c3;have S:=a.c4;have T:=a.c5;have U:=a.fk;have g4:(0:Int)<=(k:Int):=z;have gx:(k:Int)<l.length:=z;have i3:(k:Int)<cs.length:=z;have H:x<wr.heap.size:=E;have F:=G C;have y:=b.size;have o:=G b;clear D a ag I;go_upto_region 7 with(go_at_call 101;(with_reducible refine r.out.mono ?_);rintro e c ⟨rfl,f⟩)
    have fV:=aA f H F.out;have br:=R.out _ (o.out.trans (f.mono y)) k Y;have d:=(o.out.trans (f.mono y)).drew;have L2:c.drew.cell? ⟨x,M+k*7,none⟩=_:=fV;have aa:c.drew.cell? ⟨m,B+k*2+1,none⟩=_:=br;clear C L N Q S T U F E H fV br b f r o;refine tq au au ?_;change wpStill _ _ c.drew (fun K=>Exit.then _ _ Exit.normal K c.drew) _ _;generalize c.drew=a' at*;generalize cs[k].2=q at*;rcases RD (ce !=(q:Int))with ak|ak<;>rcases RD (ce !=0)with J|J
    ·repeat still_step
     refine qJ ?_
     go_wp2;go_ret;exact⟨⟨_,rfl⟩,d⟩
    all_goals
     repeat still_step
     refine qJ ?_
     go_wp2;go_roundw;case rel=>first|exact⟨k+1,z,bM,d⟩|exact⟨k+1,z,z⟩|exact⟨k+1,z,z,d⟩|((repeat apply Exists.intro);refine⟨?_,rfl⟩;exact⟨k+1,z,bM,d⟩)
     case measure=>simp[RowKit.intOf];omega
   ·go_wp2;go_ret;exact⟨⟨_,rfl⟩,b⟩
 ·have eg:((cs.length:Int) !=(l.length:Int))=true:=bu
  go_wp2;go_ret;exact⟨⟨_,rfl⟩,bi _ _⟩
def acX(a b:Int)(e:Ending):Prop:=∃x:Int,e=.returned (.int .i64 x)/\a<=x/\x<=b
def I5(n:Nat)(e:Ending):Prop:=∃s:ByteArray,e=.returned (.string s)/\s.size<=n
theorem axN(y:Int)(w:World)(ab:1<=y)(H:y<=9999):Calls prog 377 #[.int .i64 y] w fun e w'=>acV e/\w=w':=by
 go_enter func377,ntmps377
 go_wp2;all_goals
  go_ret;exact⟨⟨_,rfl⟩,rfl⟩
theorem aso(y m:Int)(w:World)(ab:1<=y)(H:y<=9999):Calls prog 297 #[.int .i64 y,.int .i64 m] w fun e w'=>acX 28 31 e/\w=w':=by
 have E9:=G (axN y w ab H);go_enter func297,ntmps297
 go_wp2_with (go_at_call 377;(with_reducible refine E9.out.mono ?_);rintro e a ⟨⟨b,rfl⟩,rfl⟩;cases b);all_goals
  go_ret;exact⟨⟨_,rfl,ai,ai⟩,rfl⟩
theorem atD(y:Int)(w:World)(ab:1<=y)(H:y<=9999):Calls prog 296 #[.int .i64 y] w fun e w'=>acX (-100) 4000000 e/\w=w':=by
 have c:=HN (a:=y-1) (b:=4) z;have d:=HN (a:=y-1) (b:=100) z;have f:=HN (a:=y-1) (b:=400) z;go_enter func296,ntmps296
 go_wp2;go_ret;refine⟨⟨_,rfl,?_,?_⟩,rfl⟩;all_goals omega
theorem asJ(n:Int)(c:Nat)(w:World)(ab: -6000000<=n)(H:n<=4000000)(q:c<=4):Calls prog 192 #[.int .i64 n,.int .i64 c] w fun e w'=>I5 4000010 e/\Below w.heap.size w w':=by
 go_enter func192,ntmps192
 go_wp2;go_loopw [0,1,5] (fun x y v wr=>∃(j:Nat) (d:Int) (s:ByteArray),s.size=j/\x=.int .i64 d/\y=.int .i64 ((c:Int)-j)/\v=.string s/\ -6000000<=d/\d<=4000000/\j+d.toNat+((c:Int)-j).toNat<=4000010/\Below w.heap.size w wr) (fun x y _ _=>(RowKit.intOf x).toNat+(RowKit.intOf y).toNat);case atStart=>exact⟨0,n,bL,rfl,rfl,am,rfl,ab,H,z,bi _ _⟩
 case round=>
  obtain⟨j,x,s,V,rfl,rfl,rfl,k,r,m,A⟩:=hrel;have sd: -6000000<=x.tdiv 10:=by exact Xt
  have it:x.tdiv 10<=4000000:=by exact Xt
  have t:(x.tdiv 10).toNat<=x.toNat-1:=by exact Xt
  have l:=fun ae=>akK wr ae;have jg:∀ae,(strOfNums [ae]).size=1:=fun ae=>by rw[MQ];rfl
  have o:s.size<=4000010:=z;by_cases f:0<x
  ·have ak:decide (0<x)=true:=by simpa using f
   exact ai2
  ·have ak:decide (0<x)=false:=by simpa using f
   by_cases g:0<(c:Int)-j
   ·have i:decide (0<(c:Int)-j)=true:=by simpa using g
    exact ai2
   ·have i:decide (0<(c:Int)-j)=false:=by simpa using g
    go_wp2;go_ret;exact⟨⟨s,rfl,z⟩,A⟩
end Go.b3
