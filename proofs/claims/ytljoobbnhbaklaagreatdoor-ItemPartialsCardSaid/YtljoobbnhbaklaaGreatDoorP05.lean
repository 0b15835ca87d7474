/- ItemPartials, one part of the proof: AK, AL, BA, BB. -/
import Derived.Test.YtljoobbnhbaklaaGreatDoorP04
set_option linter.all false
set_option maxRecDepth 100000
set_option maxHeartbeats 16000000
namespace Go.Ev
structure CF where
 nt : Nat
 rs : List RV
 c : CC
def denRes (P : Program) (nt : Nat) : List ResultVar -> Option (List RV)
 | [] => some []
 | .tmp t :: l => if t < nt then (match denRes P nt l with | some r => some (.tmp t :: r) | none => none) else none
 | .cell b t :: l => if b < nt then (match P.underlying t, P.info? t, denRes P nt l with
     | some d, some i, some r => some (.cell b (aggD d) i.size :: r)
     | _, _, _ => none) else none
def keyOf (f : FuncId) : Nat := f * 64
def denFn (P : Program) (f : FuncId) : Option CF := match P.funcs[f]? with
 | some fn => match fn.body with
   | some body => bif (fn.name != "runtime.NumGoroutine") && Nat.ble fn.ntmps 256 && Nat.ble (ranges body).length 64 then
       match denRes P fn.ntmps fn.results.toList, denC P fn.ntmps (some (keyOf f)) body with
       | some rs, some c => some ⟨fn.ntmps, rs, c⟩
       | _, _ => none
     else none
   | none => none
 | none => none
def rangeAt (P : Program) (key : Nat) : Option (Nat × Array Tmp × Code × Code) := match P.funcs[key / 64]? with
 | some fn => match fn.body with
   | some body => match (ranges body)[key % 64]? with
     | some x => some (fn.ntmps, x)
     | none => none
   | none => none
 | none => none
def loopsOf (P : Program) (key : Nat) : Option Loop := match rangeAt P key with
 | some (_, ps, a, b) => some { state := .ready, pending := none, fn := key / 64, tmps := #[], params := ps, assign := a, body := b, defers := 0 }
 | none => none
structure CL where
 nt : Nat
 params : List Nat
 a : CC
 b : CC
def denLoop (P : Program) (key : Nat) : Option CL := match rangeAt P key with
 | some (nt, ps, a, b) => bif ps.toList.all (fun t => decide (t < nt)) then
     match denC P nt none a, denC P nt none b with
     | some x, some y => some ⟨nt, ps.toList, x, y⟩
     | _, _ => none
   else none
 | none => none
abbrev Ext1 := FuncId -> Option (List AV -> H -> Option (AV × H))
def loopsN (P : Program) (E : Env) (n : Nat) (key : Nat) : Option LoopSem := match denLoop P key with
 | some l => some ⟨l.nt, l.params, semC E n l.a, semC E n l.b⟩
 | none => none
section
variable {P : Program} {ρ : Rho} {E : Env}
theorem denRes_ok {nt : Nat} : ∀ {l : List ResultVar} {rs : List RV}, denRes P nt l = some rs -> RVsOk P nt l rs
 | [], rs, h => by simp [denRes] at h; subst h; trivial
 | .tmp t :: l, rs, h => by
   simp only [denRes] at h
   split at h
   · rename_i hlt
     split at h
     · rename_i r hr; cases h; exact ⟨⟨rfl, hlt⟩, denRes_ok hr⟩
     · cases h
   · cases h
 | .cell b t :: l, rs, h => by
   simp only [denRes] at h
   split at h
   · rename_i hlt
     split at h
     · rename_i d i r hd hi hr; cases h; exact ⟨⟨rfl, hlt, d, i, hd, hi, rfl, rfl⟩, denRes_ok hr⟩
     · cases h
   · cases h
theorem denFn_ok (hm : P.follows .mixedOrders = true) (hρ : ρ.loops = loopsOf P) (hE : EnvOk P ρ E) {f : FuncId} {d : CF} (h : denFn P f = some d) (n : Nat) : FnOk P ρ f (funcF d.nt d.rs (semC E n d.c)) := by
 unfold denFn at h
 split at h
 · rename_i fn hf
   split at h
   · rename_i body hb
     cases hc : ((fn.name != "runtime.NumGoroutine") && Nat.ble fn.ntmps 256 && Nat.ble (ranges body).length 64) with
     | false => rw [hc] at h; simp at h
     | true =>
       rw [hc] at h
       simp only [cond_true] at h
       simp only [Bool.and_eq_true] at hc
       obtain ⟨⟨h1, h2⟩, h3⟩ := hc
       have h3 := Nat.le_of_ble_eq_true h3
       split at h
       · rename_i rs c hrs hcc
         cases h
         refine func_ok hf hb (by simpa using h1) rfl (Nat.le_of_ble_eq_true h2) (denRes_ok hrs) (B := fun b => b.roundOf = none /\ b.fn = f) ⟨rfl, rfl⟩ (denC_ok hm hE (f := f) body (some (keyOf f)) c (fun _ b hb => hb) ?_ hcc)
         intro key hk i x hx
         cases hk
         have hi : i < (ranges body).length := (List.getElem?_eq_some_iff.1 hx).1
         have e1 : (keyOf f + i) / 64 = f := by unfold keyOf; omega
         have e2 : (keyOf f + i) % 64 = i := by unfold keyOf; omega
         obtain ⟨ps, a, b⟩ := x
         refine ⟨{ state := .ready, pending := none, fn := f, tmps := #[], params := ps, assign := a, body := b, defers := 0 }, ?_, rfl, rfl, rfl, rfl⟩
         rw [hρ]
         simp only [loopsOf, rangeAt, e1, e2, hf, hb, hx]
       · cases h
   · cases h
 · cases h
theorem loopsN_ok (hm : P.follows .mixedOrders = true) (hρ : ρ.loops = loopsOf P) (hE : EnvOk P ρ E) (n : Nat) : LoopsOk P ρ (loopsN P E n) := by
 refine ⟨fun key L l hL hl => ?_⟩
 rw [hρ] at hl
 unfold loopsN at hL
 split at hL
 · rename_i cl hcl
   cases hL
   unfold denLoop at hcl
   split at hcl
   · rename_i nt ps a b hr
     cases hc : ps.toList.all (fun t => decide (t < nt)) with
     | false => rw [hc] at hcl; simp at hcl
     | true =>
       rw [hc] at hcl
       simp only [cond_true] at hcl
       split at hcl
       · rename_i x y hx hy
         cases hcl
         simp only [loopsOf, hr, Option.some.injEq] at hl
         subst hl
         refine ⟨rfl, fun t ht => ?_, denC_ok hm hE (f := 0) a none x (fun h => (h rfl).elim) (fun key hk => by cases hk) hx, denC_ok hm hE (f := 0) b none y (fun h => (h rfl).elim) (fun key hk => by cases hk) hy⟩
         simpa using List.all_eq_true.1 hc t ht
       · cases hcl
   · cases hcl
 · cases hL
end
end Go.Ev
namespace Go.Ev
section
variable {P : Program} {ρ : Rho}
theorem func_calls {f : FuncId} {fn : Func} {body : Code} {nt : Nat} {rs : List RV} {F : SemF} (hf : P.funcs[f]? = some fn) (hb : fn.body = some body) (hnt : fn.ntmps = nt) (hle : nt <= 256) (hrs : RVsOk P nt fn.results.toList rs)
   {B : FC -> Prop} (hB : B ⟨f, .normal, none⟩) (hF : SimC P ρ nt B body F) {σ : Sig} {args : List AV} {h : H} {v : AV} {h' : H} {cs : List Value} {w : World} (hg : GOk P σ) (hargs : concL ρ σ args = some cs) (hH : HRel ρ σ h w) (hv : funcF nt rs F args h = some (v, h')) :
   Calls P f cs.toArray w fun e w' => ∃ c, e = .returned c /\ After ρ σ h w v h' c w' := by
 unfold funcF at hv
 cases hal : Nat.ble args.length nt with
 | false => rw [hal] at hv; simp at hv
 | true =>
   rw [hal] at hv
   simp only [cond_true] at hv
   have hal' := Nat.le_of_ble_eq_true hal
   intro cs'
   have henter : Frame.enter P f cs.toArray .normal = fr ⟨f, .normal, none⟩ (cs.toArray ++ Array.replicate (nt - cs.toArray.size) undef) [] [.code body] := by
     simp [Frame.enter, fr, hf, hb, hnt]
   rw [henter]
   have hst : StRel P ρ nt σ ⟨putArgs args 0 s0, h, []⟩ (cs.toArray ++ Array.replicate (nt - cs.toArray.size) undef) [] w := ⟨.start hargs hal' hle, hH, rfl, hg⟩
   have fin : ∀ (e : X) (x : St), (∀ id, e ≠ .exit id) -> F ⟨putArgs args 0 s0, h, []⟩ = some (e, x) -> finF rs x = some (v, h') ->
       ∃ (e : Ending) (w' : World) (fr1 : Frame), (∃ c, e = .returned c /\ After ρ σ h w v h' c w') /\ Comes P (lone (fr ⟨f, .normal, none⟩ (cs.toArray ++ Array.replicate (nt - cs.toArray.size) undef) [] [.code body]) cs' w) (lone fr1 cs' w') e /\ fr1.fn = f /\ fr1.leaving P w' e := fun e x hne hFx hres => by
     obtain ⟨σ1, a1, ds1, w1, r1, g1, l1⟩ := hF σ _ e x hFx ⟨f, .normal, none⟩ hB [] cs' _ [] w hst
     have hland : ∃ todo, Steps P (lone (fr ⟨f, .normal, none⟩ (cs.toArray ++ Array.replicate (nt - cs.toArray.size) undef) [] [.code body]) cs' w) (lone (frR ⟨f, .normal, none⟩ a1 ds1 todo) cs' w1) := by
       cases e with
       | norm => exact ⟨[], Steps.trans l1 (.one (st_end rfl))⟩
       | exit id => exact (hne id rfl).elim
       | ret => obtain ⟨k2, l2⟩ := l1; exact ⟨.code .ret :: k2, Steps.trans l2 (.one (st_ret rfl))⟩
     obtain ⟨todo, hs1⟩ := hland
     unfold finF at hres
     split at hres
     · rename_i h2 hdd
       obtain ⟨w2, q1, q2, q3⟩ := unwind_marks (P := P) (b := ⟨f, .normal, none⟩) (a := a1) (k := todo) (cs := cs') hdd r1.d r1.h
       split at hres
       · rename_i vs hvs
         simp only [Option.some.injEq, Prod.mk.injEq] at hres
         obtain ⟨rfl, rfl⟩ := hres
         obtain ⟨us, u1, u2⟩ := resVs_ok r1.g r1.s q1 hrs hvs
         have hlen := concL_length u1
         have hm : (fn.results.mapM (resM a1) : Sem (Array Value)).run P w2 = .ok us.toArray w2 := by
           rw [Array.mapM_eq_mapM_toList]
           simp only [Sem.run_map]
           rw [u2]
           rfl
         have hres : ∃ u, conc ρ σ1 (oneOf vs) = some u /\ (results fn a1).run P w2 = .ok u w2 := by
           rw [results_eq]
           simp only [Sem.run_bind]
           rw [hm]
           simp only [Result.andThen_ok, Sem.run_pure]
           match vs, us, u1, hlen with
           | [y], [u], u1, _ =>
             obtain ⟨u', hu', e'⟩ := concL_one u1
             cases e'
             exact ⟨u, hu', by simp⟩
           | [], [], u1, _ => exact ⟨.tuple #[], by simp [oneOf, conc, concL], by simp⟩
           | y :: y' :: l, u :: u' :: m, u1, _ => exact ⟨.tuple (u :: u' :: m).toArray, by simp [oneOf, conc, u1], by simp⟩
         obtain ⟨u, hu1, hu2⟩ := hres
         exact ⟨.returned u, w2, _, ⟨u, rfl, σ1, hu1, q1, g1.trans q2⟩, Steps.trans hs1 q3, rfl, ⟨rfl, rfl, rfl, fn, hf, hu2⟩⟩
       · cases hres
     · cases hres
   split at hv
   · rename_i x hFx
     exact fin .norm x (fun id e1 => by cases e1) hFx hv
   · rename_i x hFx
     exact fin .ret x (fun id e1 => by cases e1) hFx hv
   · cases hv
theorem denFn_calls (hm : P.follows .mixedOrders = true) (hρ : ρ.loops = loopsOf P) {E : Env} (hE : EnvOk P ρ E) {f : FuncId} {d : CF} (h : denFn P f = some d) (n : Nat) {σ : Sig} {args : List AV} {hp : H} {v : AV} {h' : H} {cs : List Value} {w : World} (hg : GOk P σ) (hargs : concL ρ σ args = some cs) (hH : HRel ρ σ hp w) (hv : funcF d.nt d.rs (semC E n d.c) args hp = some (v, h')) :
   Calls P f cs.toArray w fun e w' => ∃ c, e = .returned c /\ After ρ σ hp w v h' c w' := by
 unfold denFn at h
 split at h
 · rename_i fn hf
   split at h
   · rename_i body hb
     cases hc : ((fn.name != "runtime.NumGoroutine") && Nat.ble fn.ntmps 256 && Nat.ble (ranges body).length 64) with
     | false => rw [hc] at h; simp at h
     | true =>
       rw [hc] at h
       simp only [cond_true] at h
       simp only [Bool.and_eq_true] at hc
       obtain ⟨⟨h1, h2⟩, h3⟩ := hc
       have h3 := Nat.le_of_ble_eq_true h3
       split at h
       · rename_i rs c hrs hcc
         cases h
         refine func_calls hf hb rfl (Nat.le_of_ble_eq_true h2) (denRes_ok hrs) (B := fun b => b.roundOf = none /\ b.fn = f) ⟨rfl, rfl⟩ (denC_ok hm hE (f := f) body (some (keyOf f)) c (fun _ b hb => hb) ?_ hcc) hg hargs hH hv
         intro key hk i x hx
         cases hk
         have hi : i < (ranges body).length := (List.getElem?_eq_some_iff.1 hx).1
         have e1 : (keyOf f + i) / 64 = f := by unfold keyOf; omega
         have e2 : (keyOf f + i) % 64 = i := by unfold keyOf; omega
         obtain ⟨ps, a, b⟩ := x
         refine ⟨{ state := .ready, pending := none, fn := f, tmps := #[], params := ps, assign := a, body := b, defers := 0 }, ?_, rfl, rfl, rfl, rfl⟩
         rw [hρ]
         simp only [loopsOf, rangeAt, e1, e2, hf, hb, hx]
       · cases h
   · cases h
 · cases h
end
end Go.Ev
namespace Go.Ev
inductive Res where
 | fail
 | norm (x : St)
 | exit (id : Nat) (x : St)
 | ret (x : St)
def Res.opt : Res -> Option (X × St)
 | .fail => none
 | .norm x => some (.norm, x)
 | .exit id x => some (.exit id, x)
 | .ret x => some (.ret, x)
def tick {α : Type} (a : α) : α := a
noncomputable def seenF : AV -> Bool := @AV.rec (fun _ => Bool) (fun _ => Unit) (fun _ _ => true) (fun _ => true) (fun _ => true) (fun _ _ => true) true (fun _ _ _ _ _ => true) true (fun _ => true) true (fun _ _ _ _ _ => true) (fun _ => true) true (fun _ _ _ => true) true (fun _ _ => true) (fun _ _ => true) (fun _ => true) (fun _ _ _ _ => true) () (fun _ _ _ _ => ())
noncomputable def seen (v : AV) : Bool := seenF v
noncomputable def onIntF : AV -> (IntKind -> Int -> Option AV) -> Option AV := @AV.rec (fun _ => (IntKind -> Int -> Option AV) -> Option AV) (fun _ => Unit) (fun x0 x1 k => k x0 x1) (fun _ _ => none) (fun _ _ => none) (fun _ _ _ => none) (fun _ => none) (fun _ _ _ _ _ _ => none) (fun _ => none) (fun _ _ => none) (fun _ => none) (fun _ _ _ _ _ _ => none) (fun _ _ => none) (fun _ => none) (fun _ _ _ _ => none) (fun _ => none) (fun _ _ _ => none) (fun _ _ _ => none) (fun _ _ => none) (fun _ _ _ _ _ => none) () (fun _ _ _ _ => ())
noncomputable def onInt (v : AV) (k : IntKind -> Int -> Option AV) : Option AV := onIntF v k
noncomputable def onBoolF : AV -> (Bool -> Option AV) -> Option AV := @AV.rec (fun _ => (Bool -> Option AV) -> Option AV) (fun _ => Unit) (fun _ _ _ => none) (fun x0 k => k x0) (fun _ _ => none) (fun _ _ _ => none) (fun _ => none) (fun _ _ _ _ _ _ => none) (fun _ => none) (fun _ _ => none) (fun _ => none) (fun _ _ _ _ _ _ => none) (fun _ _ => none) (fun _ => none) (fun _ _ _ _ => none) (fun _ => none) (fun _ _ _ => none) (fun _ _ _ => none) (fun _ _ => none) (fun _ _ _ _ _ => none) () (fun _ _ _ _ => ())
noncomputable def onBool (v : AV) (k : Bool -> Option AV) : Option AV := onBoolF v k
noncomputable def onPtrF : AV -> (Nat -> Nat -> Option AV) -> Option AV := @AV.rec (fun _ => (Nat -> Nat -> Option AV) -> Option AV) (fun _ => Unit) (fun _ _ _ => none) (fun _ _ => none) (fun _ _ => none) (fun x0 x1 k => k x0 x1) (fun _ => none) (fun _ _ _ _ _ _ => none) (fun _ => none) (fun _ _ => none) (fun _ => none) (fun _ _ _ _ _ _ => none) (fun _ _ => none) (fun _ => none) (fun _ _ _ _ => none) (fun _ => none) (fun _ _ _ => none) (fun _ _ _ => none) (fun _ _ => none) (fun _ _ _ _ _ => none) () (fun _ _ _ _ => ())
noncomputable def onPtr (v : AV) (k : Nat -> Nat -> Option AV) : Option AV := onPtrF v k
noncomputable def onStrF : AV -> (List Nat -> Option AV) -> Option AV := @AV.rec (fun _ => (List Nat -> Option AV) -> Option AV) (fun _ => Unit) (fun _ _ _ => none) (fun _ _ => none) (fun x0 k => k x0) (fun _ _ _ => none) (fun _ => none) (fun _ _ _ _ _ _ => none) (fun _ => none) (fun _ _ => none) (fun _ => none) (fun _ _ _ _ _ _ => none) (fun _ _ => none) (fun _ => none) (fun _ _ _ _ => none) (fun _ => none) (fun _ _ _ => none) (fun _ _ _ => none) (fun _ _ => none) (fun _ _ _ _ _ => none) () (fun _ _ _ _ => ())
noncomputable def onStr (v : AV) (k : List Nat -> Option AV) : Option AV := onStrF v k
noncomputable def onBoolRF : AV -> (Bool -> Res) -> Res := @AV.rec (fun _ => (Bool -> Res) -> Res) (fun _ => Unit) (fun _ _ _ => .fail) (fun x0 k => k x0) (fun _ _ => .fail) (fun _ _ _ => .fail) (fun _ => .fail) (fun _ _ _ _ _ _ => .fail) (fun _ => .fail) (fun _ _ => .fail) (fun _ => .fail) (fun _ _ _ _ _ _ => .fail) (fun _ _ => .fail) (fun _ => .fail) (fun _ _ _ _ => .fail) (fun _ => .fail) (fun _ _ _ => .fail) (fun _ _ _ => .fail) (fun _ _ => .fail) (fun _ _ _ _ _ => .fail) () (fun _ _ _ _ => ())
noncomputable def onBoolR (v : AV) (k : Bool -> Res) : Res := onBoolRF v k
noncomputable def pickK (c a b : AV) : Option AV := onBool c fun t => @Bool.rec (fun _ => Option AV) (@Bool.rec (fun _ => Option AV) none (some b) (seen b)) (@Bool.rec (fun _ => Option AV) none (some a) (seen a)) t
noncomputable def getN (l : List Nat) (m : Nat) : Option Nat := @List.rec Nat (fun _ => Nat -> Option Nat) (fun _ => none) (fun a _ ih m => @Nat.rec (fun _ => Option Nat) (some a) (fun p _ => ih p) m) l m
theorem getN_eq : ∀ (l : List Nat) (m : Nat), getN l m = l[m]?
 | [], m => rfl
 | a :: l, 0 => rfl
 | a :: l, m + 1 => by show getN l m = _; rw [getN_eq l m]; simp
noncomputable def lenN (l : List Nat) : Nat := @List.rec Nat (fun _ => Nat) 0 (fun _ _ ih => Nat.succ ih) l
theorem lenN_eq : ∀ (l : List Nat), lenN l = l.length
 | [] => rfl
 | a :: l => by show Nat.succ (lenN l) = _; rw [lenN_eq l]; simp
noncomputable def sEqN (l : List Nat) : List Nat -> Bool := @List.rec Nat (fun _ => List Nat -> Bool) (fun m => @List.rec Nat (fun _ => Bool) true (fun _ _ _ => false) m) (fun a _ ih m => @List.rec Nat (fun _ => Bool) false (fun b m _ => @Bool.rec (fun _ => Bool) false (ih m) (Nat.beq a b)) m) l
theorem sEqN_eq : ∀ (l m : List Nat), sEqN l m = strEq l m
 | [], [] => rfl
 | [], _ :: _ => rfl
 | _ :: _, [] => rfl
 | a :: l, b :: m => by
   show @Bool.rec (fun _ => Bool) false (sEqN l m) (Nat.beq a b) = _
   rw [strEq, sEqN_eq l m]
   cases Nat.beq a b <;> rfl
noncomputable def indexK (s i : AV) : Option AV := onStr s fun l => onInt i fun _ n => @Int.rec (fun _ => Option AV) (fun m => @Option.rec Nat (fun _ => Option AV) none (fun b => some (.int .u8 (.ofNat b))) (getN l m)) (fun _ => none) n
noncomputable def lenStrK (s : AV) : Option AV := onStr s fun l => natV (lenN l)
noncomputable def fieldK (off : Nat) (p : AV) : Option AV := onPtr p fun b o => strictN (Nat.add o off) fun q => some (.ptr b q)
noncomputable def ltK (a b : Int) : Bool := @Int.rec (fun _ => Bool) (fun m => @Int.rec (fun _ => Bool) (fun n => Nat.blt m n) (fun _ => ltI a b) b) (fun _ => ltI a b) a
theorem ltK_eq (a b : Int) : ltK a b = ltI a b := by cases a <;> cases b <;> rfl
noncomputable def eqK (a b : Int) : Bool := @Int.rec (fun _ => Bool) (fun m => @Int.rec (fun _ => Bool) (fun n => Nat.beq m n) (fun _ => eqI a b) b) (fun _ => eqI a b) a
theorem eqK_eq (a b : Int) : eqK a b = eqI a b := by cases a <;> cases b <;> rfl
inductive Cmp where
 | eql
 | neq
 | lss
 | leq
 | gtr
 | geq
def Cmp.op : Cmp -> BinOp
 | .eql => .eql
 | .neq => .neq
 | .lss => .lss
 | .leq => .leq
 | .gtr => .gtr
 | .geq => .geq
noncomputable def notB (b : Bool) : Bool := @Bool.rec (fun _ => Bool) true false b
theorem notB_eq (b : Bool) : notB b = !b := by cases b <;> rfl
noncomputable def cmpK (c : Cmp) : Int -> Int -> Bool := @Cmp.rec (fun _ => Int -> Int -> Bool) (fun a b => eqK a b) (fun a b => notB (eqK a b)) (fun a b => ltK a b) (fun a b => notB (ltK b a)) (fun a b => ltK b a) (fun a b => notB (ltK a b)) c
noncomputable def boolV (b : Bool) : Option AV := @Bool.rec (fun _ => Option AV) (some (.bool false)) (some (.bool true)) b
theorem boolV_eq (b : Bool) : boolV b = some (.bool b) := by cases b <;> rfl
noncomputable def kindN : IntKind -> Nat := @IntKind.rec (fun _ => Nat) 0 1 2 3 4 5 6 7
noncomputable def kindB (a b : IntKind) : Bool := Nat.beq (kindN a) (kindN b)
theorem kindB_eq {a b : IntKind} (h : kindB a b = true) : a = b := by cases a <;> cases b <;> first | rfl | cases h
noncomputable def cmpIntK (c : Cmp) (x y : AV) : Option AV := onInt x fun j a => onInt y fun k b => @Bool.rec (fun _ => Option AV) none (boolV (cmpK c a b)) (kindB j k)
noncomputable def eqStrK (neg : Bool) (x y : AV) : Option AV := onStr x fun a => onStr y fun b => @Bool.rec (fun _ => Option AV) (boolV (sEqN a b)) (boolV (notB (sEqN a b))) neg
noncomputable def nilcF : AV -> Option AV := @AV.rec (fun _ => Option AV) (fun _ => Unit) (fun _ _ => none) (fun _ => none) (fun _ => none) (fun b o => some (.ptr b o)) none (fun _ _ _ _ _ => none) none (fun _ => none) none (fun f x y _ _ => some (.fn f x y)) (fun b => some (.yld b)) none (fun t v _ => some (.iface t v)) none (fun _ _ => none) (fun _ _ => none) (fun _ => none) (fun _ _ _ _ => none) () (fun _ _ _ _ => ())
noncomputable def nilcK (v : AV) : Option AV := nilcF v
noncomputable def lenLF : AV -> Option AV := @AV.rec (fun _ => Option AV) (fun _ => Unit) (fun _ _ => none) (fun _ => none) (fun _ => none) (fun _ _ => none) none (fun _ _ n _ _ => natV n) (natV 0) (fun _ => none) none (fun _ _ _ _ _ => none) (fun _ => none) none (fun _ _ _ => none) none (fun _ _ => none) (fun _ _ => none) (fun _ => none) (fun _ _ _ _ => natV 0) () (fun _ _ _ _ => ())
noncomputable def lenLK (v : AV) : Option AV := lenLF v
noncomputable def onSlF : AV -> (Nat -> Nat -> Nat -> Option AV) -> Option AV := @AV.rec (fun _ => (Nat -> Nat -> Nat -> Option AV) -> Option AV) (fun _ => Unit) (fun _ _ => fun _ => none) (fun _ => fun _ => none) (fun _ => fun _ => none) (fun _ _ => fun _ => none) (fun _ => none) (fun b o n _ _ k => k b o n) (fun _ => none) (fun _ => fun _ => none) (fun _ => none) (fun _ _ _ _ _ => fun _ => none) (fun _ => fun _ => none) (fun _ => none) (fun _ _ _ => fun _ => none) (fun _ => none) (fun _ _ => fun _ => none) (fun _ _ => fun _ => none) (fun _ => fun _ => none) (fun _ _ _ _ => fun _ => none) () (fun _ _ _ _ => ())
noncomputable def onSl (v : AV) (k : Nat -> Nat -> Nat -> Option AV) : Option AV := onSlF v k
noncomputable def addK (x y : AV) : Option AV := onInt x fun j a => onInt y fun k b => @Bool.rec (fun _ => Option AV) none (intV j (addI a b)) (kindB j k)
noncomputable def idxAK (n : Nat) (x y : AV) : Option AV := onSl x fun b o len => onInt y fun _ i => @Int.rec (fun _ => Option AV) (fun m => @Bool.rec (fun _ => Option AV) none (strictN (o + m * n) fun q => some (.ptr b q)) (Nat.blt m len)) (fun _ => none) i
noncomputable def getA (l : List AV) (m : Nat) : Option AV := @List.rec AV (fun _ => Nat -> Option AV) (fun _ => none) (fun a _ ih m => @Nat.rec (fun _ => Option AV) (some a) (fun p _ => ih p) m) l m
theorem getA_eq : ∀ (l : List AV) (m : Nat), getA l m = l[m]?
 | [], m => rfl
 | a :: l, 0 => rfl
 | a :: l, m + 1 => by show getA l m = _; rw [getA_eq l m]; simp
noncomputable def cellsF : ABlk -> (List AV -> Option AV) -> Option AV := @ABlk.rec (fun _ => (List AV -> Option AV) -> Option AV) (fun _ vs _ _ k => k vs) (fun _ _ _ => none) (fun _ _ _ _ _ => none) (fun _ _ _ _ _ _ _ => none) (fun _ => none) (fun _ vs k => k vs)
noncomputable def getT : T ABlk -> Nat -> Option ABlk := @T.rec ABlk (fun _ => Nat -> Option ABlk) (fun _ => none) (fun v _ _ il ir k => @Bool.rec (fun _ => Option ABlk) (@Bool.rec (fun _ => Option ABlk) (ir (Nat.sub (Nat.div k 2) 1)) (il (Nat.div k 2)) (Nat.beq (Nat.mod k 2) 1)) v (Nat.beq k 0))
theorem getT_eq : ∀ (t : T ABlk) (k : Nat), getT t k = t.get k
 | .e, k => rfl
 | .n v l r, k => by
   show @Bool.rec (fun _ => Option ABlk) (@Bool.rec (fun _ => Option ABlk) (getT r (Nat.sub (Nat.div k 2) 1)) (getT l (Nat.div k 2)) (Nat.beq (Nat.mod k 2) 1)) v (Nat.beq k 0) = _
   rw [T.get, getT_eq l, getT_eq r]
   cases Nat.beq k 0 <;> cases Nat.beq (Nat.mod k 2) 1 <;> rfl
noncomputable def ldK (x : AV) (h : H) : Option AV := onPtr x fun b off => @Option.rec ABlk (fun _ => Option AV) none (fun q => cellsF q fun vs => getA vs off) (getT h.t b)
inductive KOp where
 | gen (c : COp)
 | mv (d : Nat) (x : S -> AV)
 | gmv (gx : S -> AV) (want : Bool) (d : Nat) (x : S -> AV)
 | pick (gd : Option ((S -> AV) × Bool)) (d : Option Nat) (c x y : S -> AV)
 | cmp (gd : Option ((S -> AV) × Bool)) (d : Option Nat) (c : Cmp) (x y : S -> AV)
 | eqs (gd : Option ((S -> AV) × Bool)) (d : Option Nat) (neg : Bool) (x y : S -> AV)
 | index (gd : Option ((S -> AV) × Bool)) (d : Option Nat) (x y : S -> AV)
 | lenS (gd : Option ((S -> AV) × Bool)) (d : Option Nat) (x : S -> AV)
 | field (gd : Option ((S -> AV) × Bool)) (d : Option Nat) (off : Nat) (x : S -> AV)
 | nilc (gd : Option ((S -> AV) × Bool)) (d : Option Nat) (x : S -> AV)
 | lenL (gd : Option ((S -> AV) × Bool)) (d : Option Nat) (x : S -> AV)
 | add (gd : Option ((S -> AV) × Bool)) (d : Option Nat) (x y : S -> AV)
 | idxA (gd : Option ((S -> AV) × Bool)) (d : Option Nat) (n : Nat) (x y : S -> AV)
 | ld (gd : Option ((S -> AV) × Bool)) (d : Option Nat) (n : Nat) (x : S -> AV)
def KOp.toC : KOp -> COp
 | .gen c => c
 | .mv d x => ⟨none, some d, [x], .std (.pure moveV)⟩
 | .gmv gx want d x => ⟨some (gx, want), some d, [x], .std (.pure moveV)⟩
 | .pick gd d c x y => ⟨gd, d, [c, x, y], .std (.pure pickV)⟩
 | .cmp gd d c x y => ⟨gd, d, [x, y], .std (.pure (binV c.op))⟩
 | .eqs gd d neg x y => ⟨gd, d, [x, y], .std (.pure (binV (bif neg then .neq else .eql)))⟩
 | .index gd d x y => ⟨gd, d, [x, y], .std (.pure indexStrV)⟩
 | .lenS gd d x => ⟨gd, d, [x], .std (.pure lenStrV)⟩
 | .field gd d off x => ⟨gd, d, [x], .std (.pure (fieldAddrV off))⟩
 | .nilc gd d x => ⟨gd, d, [x], .std (.pure nilCheckV)⟩
 | .lenL gd d x => ⟨gd, d, [x], .std (.pure lenSlV)⟩
 | .add gd d x y => ⟨gd, d, [x, y], .std (.pure (binV .add))⟩
 | .idxA gd d n x y => ⟨gd, d, [x, y], .std (.pure (indexAddrV n))⟩
 | .ld gd d n x => ⟨gd, d, [x], .std (.light (loadV false n))⟩
noncomputable def putK (d : Option Nat) (v : AV) (s : S) : S := @Option.rec Nat (fun _ => S) s (fun d => put d v s) d
theorem putK_eq (d : Option Nat) (v : AV) (s : S) : putK d v s = putO d v s := by cases d <;> rfl
noncomputable def gvF : AV -> Bool -> (Bool -> Res) -> Res := @AV.rec (fun _ => Bool -> (Bool -> Res) -> Res) (fun _ => Unit) (fun _ _ _ k => k false) (fun b w k => k (@Bool.rec (fun _ => Bool) (notB w) w b)) (fun _ _ k => k false) (fun _ _ _ k => k false) (fun _ k => k false) (fun _ _ _ _ _ _ k => k false) (fun _ k => k false) (fun _ _ k => k false) (fun _ k => k false) (fun _ _ _ _ _ _ k => k false) (fun _ _ k => k false) (fun _ k => k false) (fun _ _ _ _ k => k false) (fun _ k => k false) (fun _ _ _ k => k false) (fun _ _ _ k => k false) (fun _ _ _ => .fail) (fun _ _ _ _ _ k => k false) () (fun _ _ _ _ => ())
noncomputable def gvK (v : AV) (want : Bool) (k : Bool -> Res) : Res := gvF v want k
theorem gvK_eq (v : AV) (want : Bool) (k : Bool -> Res) : gvK v want k = @Option.rec Bool (fun _ => Res) .fail k (guardV v want) := by
 cases v <;> first | rfl | (rename_i b; cases b <;> cases want <;> rfl)
noncomputable def gdK (gd : Option ((S -> AV) × Bool)) (d : Option Nat) (s : S) (h : H) (k : S -> H -> Res) (go : Res) : Res :=
 @Option.rec _ (fun _ => Res) go (fun p => gvK (p.1 s) p.2 fun b => @Bool.rec (fun _ => Res) (k (putK d aundef s) h) go b) gd
noncomputable def pureK (gd : Option ((S -> AV) × Bool)) (d : Option Nat) (s : S) (h : H) (k : S -> H -> Res) (r : Option AV) : Res :=
 gdK gd d s h k (@Option.rec AV (fun _ => Res) .fail (fun v => k (putK d v s) h) r)
noncomputable def valsK (xs : List (S -> AV)) (s : S) : List AV := @List.rec _ (fun _ => List AV) [] (fun x _ ih => x s :: ih) xs
theorem valsK_eq (s : S) : ∀ (xs : List (S -> AV)), valsK xs s = vals xs s
 | [] => rfl
 | x :: l => by show x s :: valsK l s = _; rw [valsK_eq s l]; rfl
noncomputable def genK (c : COp) (E : Env) (s : S) (h : H) (k : S -> H -> Res) : Res := gdK c.guard c.dst s h k (@Option.rec _ (fun _ => Res) .fail (fun r => k (putK c.dst r.1 s) r.2) (asK E c.k (valsK c.xs s) h))
noncomputable def stepF : KOp -> Env -> S -> H -> (S -> H -> Res) -> Res :=
 @KOp.rec (fun _ => Env -> S -> H -> (S -> H -> Res) -> Res) genK
   (fun d x _ s h k => @Bool.rec (fun _ => Res) .fail (k (put d (x s) s) h) (seen (x s)))
   (fun gx want d x _ s h k => gvK (gx s) want fun b => @Bool.rec (fun _ => Res) (k (put d aundef s) h) (@Bool.rec (fun _ => Res) .fail (k (put d (x s) s) h) (seen (x s))) b)
   (fun gd d c x y _ s h k => pureK gd d s h k (pickK (c s) (x s) (y s)))
   (fun gd d c x y _ s h k => pureK gd d s h k (cmpIntK c (x s) (y s)))
   (fun gd d neg x y _ s h k => pureK gd d s h k (eqStrK neg (x s) (y s)))
   (fun gd d x y _ s h k => pureK gd d s h k (indexK (x s) (y s)))
   (fun gd d x _ s h k => pureK gd d s h k (lenStrK (x s)))
   (fun gd d off x _ s h k => pureK gd d s h k (fieldK off (x s)))
   (fun gd d x _ s h k => pureK gd d s h k (nilcK (x s)))
   (fun gd d x _ s h k => pureK gd d s h k (lenLK (x s)))
   (fun gd d x y _ s h k => pureK gd d s h k (addK (x s) (y s)))
   (fun gd d n x y _ s h k => pureK gd d s h k (idxAK n (x s) (y s)))
   (fun gd d _ x _ s h k => pureK gd d s h k (ldK (x s) h))
noncomputable def stepK (E : Env) (o : KOp) (s : S) (h : H) (k : S -> H -> Res) : Res := stepF o E s h k
noncomputable def runK (E : Env) (l : List KOp) : S -> H -> (S -> H -> Res) -> Res :=
 @List.rec KOp (fun _ => S -> H -> (S -> H -> Res) -> Res) (fun s h k => k s h) (fun o _ ih s h k => stepK E o s h fun s h => ih s h k) l
section
variable {E : Env}
theorem opt_bool {t : Bool} {a b : Res} {r : X × St} (h : (@Bool.rec (fun _ => Res) a b t).opt = some r) : (t = true /\ b.opt = some r) ∨ (t = false /\ a.opt = some r) := by
 cases t
 · exact .inr ⟨rfl, h⟩
 · exact .inl ⟨rfl, h⟩
theorem gdK_ok {gd : Option ((S -> AV) × Bool)} {d : Option Nat} {s : S} {h : H} {k : S -> H -> Res} {go : Res} {xs : List (S -> AV)} {op : OpK} {l : List COp} {r : X × St} {F : S × H -> Option (X × St)}
   (hk : ∀ s h, (k s h).opt = some r -> (runC E l s h).bind F = some r) (hgo : go.opt = some r -> ((asK E op (vals xs s) h).bind fun q => (runC E l (putO d q.1 s) q.2).bind F) = some r)
   (e : (gdK gd d s h k go).opt = some r) : (runC E (⟨gd, d, xs, op⟩ :: l) s h).bind F = some r := by
 simp only [runC]
 have fin : ∀ q, q = (asK E op (vals xs s) h) -> (q.bind fun q => (runC E l (putO d q.1 s) q.2).bind F) = some r -> Option.bind (match q with | some (v, h') => runC E l (putO d v s) h' | none => none) F = some r := fun q _ hq => by
   cases q with
   | none => simp at hq
   | some q => obtain ⟨v, h'⟩ := q; simpa using hq
 cases gd with
 | none => exact fin _ rfl (hgo e)
 | some p =>
   obtain ⟨x, want⟩ := p
   simp only [gdK, gvK_eq] at e
   cases hg : guardV (x s) want with
   | none => rw [hg] at e; simp [Res.opt] at e
   | some b =>
     rw [hg] at e
     simp only [hg]
     cases b with
     | false =>
       simp only at e ⊢
       rw [putK_eq] at e
       exact hk _ _ e
     | true => simp only at e ⊢; exact fin _ rfl (hgo e)
theorem pureK_ok {gd : Option ((S -> AV) × Bool)} {d : Option Nat} {s : S} {h : H} {k : S -> H -> Res} {v : Option AV} {xs : List (S -> AV)} {f : List AV -> Option AV} {l : List COp} {r : X × St} {F : S × H -> Option (X × St)}
   (hv : ∀ u, v = some u -> f (vals xs s) = some u) (hk : ∀ s h, (k s h).opt = some r -> (runC E l s h).bind F = some r)
   (e : (pureK gd d s h k v).opt = some r) : (runC E (⟨gd, d, xs, .std (.pure f)⟩ :: l) s h).bind F = some r := by
 unfold pureK at e
 refine gdK_ok hk (fun he => ?_) e
 cases hq : v with
 | none => rw [hq] at he; simp [Res.opt] at he
 | some u =>
   rw [hq] at he
   simp only at he
   rw [putK_eq] at he
   simp only [asK, asHeavy, hv u hq, Option.bind_some]
   exact hk _ _ he
theorem onInt_some {v : AV} {k : IntKind -> Int -> Option AV} {u : AV} (h : onInt v k = some u) : ∃ j n, v = .int j n /\ k j n = some u := by
 cases v <;> first | exact ⟨_, _, rfl, h⟩ | cases h
theorem onBool_some {v : AV} {k : Bool -> Option AV} {u : AV} (h : onBool v k = some u) : ∃ b, v = .bool b /\ k b = some u := by
 cases v <;> first | exact ⟨_, rfl, h⟩ | cases h
theorem onPtr_some {v : AV} {k : Nat -> Nat -> Option AV} {u : AV} (h : onPtr v k = some u) : ∃ b o, v = .ptr b o /\ k b o = some u := by
 cases v <;> first | exact ⟨_, _, rfl, h⟩ | cases h
theorem onStr_some {v : AV} {k : List Nat -> Option AV} {u : AV} (h : onStr v k = some u) : ∃ s, v = .str s /\ k s = some u := by
 cases v <;> first | exact ⟨_, rfl, h⟩ | cases h
theorem rec_some {t : Bool} {a : Option AV} {u : AV} (h : @Bool.rec (fun _ => Option AV) none a t = some u) : t = true /\ a = some u := by
 cases t
 · cases h
 · exact ⟨rfl, h⟩
theorem pickK_ok {c a b u : AV} (h0 : pickK c a b = some u) : pickV [c, a, b] = some u := by
 obtain ⟨t, rfl, h⟩ := onBool_some h0
 cases t
 · exact (rec_some h).2
 · exact (rec_some h).2
theorem cmpIntK_ok {c : Cmp} {x y u : AV} (h0 : cmpIntK c x y = some u) : binV c.op [x, y] = some u := by
 obtain ⟨j, a, rfl, h1⟩ := onInt_some h0
 obtain ⟨k, b, rfl, h2⟩ := onInt_some (v := y) h1
 obtain ⟨h3', h4⟩ := rec_some h2
 rw [boolV_eq] at h4
 have h3 : decide (j = k) = true := by simp [kindB_eq h3']
 cases c <;> simp only [binV, Cmp.op, isShift, cond_false, h3, cond_true, binInt] <;> rw [← h4] <;> simp [cmpK, notB_eq, ltK_eq, eqK_eq]
theorem eqStrK_ok {neg : Bool} {x y u : AV} (h0 : eqStrK neg x y = some u) : binV (bif neg then .neq else .eql) [x, y] = some u := by
 obtain ⟨a, rfl, h1⟩ := onStr_some h0
 obtain ⟨b, rfl, h2⟩ := onStr_some (v := y) h1
 cases neg
 · simp only [boolV_eq] at h2; rw [← h2]; simp [binV, binStr, sEqN_eq]
 · simp only [boolV_eq] at h2; rw [← h2]; simp [binV, binStr, sEqN_eq, notB_eq]
theorem indexK_ok {x y u : AV} (h0 : indexK x y = some u) : indexStrV [x, y] = some u := by
 obtain ⟨l, rfl, h1⟩ := onStr_some h0
 obtain ⟨j, n, rfl, h⟩ := onInt_some (v := y) h1
 cases n with
 | ofNat m =>
   simp only [getN_eq] at h
   simp only [indexStrV]
   cases hl : l[m]? with
   | none => rw [hl] at h; cases h
   | some b => rw [hl] at h; simpa [strictN_eq] using h
 | negSucc m => cases h
theorem lenStrK_ok {x u : AV} (h0 : lenStrK x = some u) : lenStrV [x] = some u := by
 obtain ⟨l, rfl, h⟩ := onStr_some h0
 rw [lenN_eq] at h
 exact h
theorem fieldK_ok {off : Nat} {x u : AV} (h0 : fieldK off x = some u) : fieldAddrV off [x] = some u := by
 obtain ⟨b, o, rfl, h⟩ := onPtr_some h0
 rw [strictN_eq] at h
 exact h
theorem nilcK_ok {x u : AV} (h : nilcK x = some u) : nilCheckV [x] = some u := by cases x <;> first | exact h | cases h
theorem lenLK_ok {x u : AV} (h : lenLK x = some u) : lenSlV [x] = some u := by cases x <;> first | exact h | cases h
theorem addK_ok {x y u : AV} (h0 : addK x y = some u) : binV .add [x, y] = some u := by
 obtain ⟨j, a, rfl, h1⟩ := onInt_some h0
 obtain ⟨k, b, rfl, h2⟩ := onInt_some (v := y) h1
 obtain ⟨h3, h4⟩ := rec_some h2
 have h3 := kindB_eq h3
 subst h3
 simpa [binV, isShift, binInt] using h4
theorem onSl_some {v : AV} {k : Nat -> Nat -> Nat -> Option AV} {u : AV} (h : onSl v k = some u) : ∃ b o n e c, v = .slice b o n e c /\ k b o n = some u := by
 cases v <;> first | exact ⟨_, _, _, _, _, rfl, h⟩ | cases h
theorem idxAK_ok {n : Nat} {x y u : AV} (h0 : idxAK n x y = some u) : indexAddrV n [x, y] = some u := by
 obtain ⟨b, o, len, e, c, rfl, h1⟩ := onSl_some h0
 obtain ⟨k, i, rfl, h2⟩ := onInt_some (v := y) h1
 cases i with
 | ofNat m =>
   obtain ⟨h3, h4⟩ := rec_some h2
   simp only [indexAddrV, h3, cond_true]
   exact h4
 | negSucc m => cases h2
theorem ldK_ok {n : Nat} {x u : AV} {h : H} (h0 : ldK x h = some u) : loadV false n [x] h = some u := by
 obtain ⟨b, off, rfl, h1⟩ := onPtr_some h0
 simp only [getT_eq] at h1
 have hg : h.get b = h.t.get b := rfl
 simp only [loadV, hg]
 cases hq : h.t.get b with
 | none => rw [hq] at h1; cases h1
 | some q =>
   rw [hq] at h1
   cases q <;> first | (cases h1; done) | skip
   · rename_i el vs ti wr
     have h2 : getA vs off = some u := h1
     rw [getA_eq] at h2
     simpa using h2
   · rename_i el vs
     have h2 : getA vs off = some u := h1
     rw [getA_eq] at h2
     simpa using h2
theorem lightK_ok {gd : Option ((S -> AV) × Bool)} {d : Option Nat} {s : S} {h : H} {k : S -> H -> Res} {v : Option AV} {xs : List (S -> AV)} {f : List AV -> H -> Option AV} {l : List COp} {r : X × St} {F : S × H -> Option (X × St)}
   (hv : ∀ u, v = some u -> f (vals xs s) h = some u) (hk : ∀ s h, (k s h).opt = some r -> (runC E l s h).bind F = some r)
   (e : (pureK gd d s h k v).opt = some r) : (runC E (⟨gd, d, xs, .std (.light f)⟩ :: l) s h).bind F = some r := by
 unfold pureK at e
 refine gdK_ok hk (fun he => ?_) e
 cases hq : v with
 | none => rw [hq] at he; simp [Res.opt] at he
 | some u =>
   rw [hq] at he
   simp only at he
   rw [putK_eq] at he
   simp only [asK, asHeavy, hv u hq, Option.bind_some]
   exact hk _ _ he
theorem stepK_ok {o : KOp} {l : List COp} {s : S} {h : H} {k : S -> H -> Res} {r : X × St} {F : S × H -> Option (X × St)} (hk : ∀ s h, (k s h).opt = some r -> (runC E l s h).bind F = some r)
   (e : (stepK E o s h k).opt = some r) : (runC E (o.toC :: l) s h).bind F = some r := by
 cases o with
 | gen c =>
   obtain ⟨gd, d, xs, op⟩ := c
   refine gdK_ok hk (fun he => ?_) e
   simp only [valsK_eq] at he
   cases hq : asK E op (vals xs s) h with
   | none => rw [hq] at he; simp [Res.opt] at he
   | some q => rw [hq] at he; simp only [putK_eq] at he; exact hk _ _ he
 | mv d x =>
   rcases opt_bool e with ⟨_, e⟩ | ⟨_, e⟩
   · simp only [KOp.toC, runC, vals, asK, asHeavy, moveV, putO]
     exact hk _ _ e
   · simp [Res.opt] at e
 | gmv gx want d x =>
   have e' : (gvK (gx s) want fun b => @Bool.rec (fun _ => Res) (k (put d aundef s) h) (@Bool.rec (fun _ => Res) .fail (k (put d (x s) s) h) (seen (x s))) b).opt = some r := e
   simp only [KOp.toC, runC, vals, asK, asHeavy, moveV, putO]
   cases hg : gx s <;> rw [hg] at e' <;> first | (cases e'; done) | (simp only [guardV]; exact hk _ _ e') | skip
   rename_i b
   have e2 : (@Bool.rec (fun _ => Res) (k (put d aundef s) h) (@Bool.rec (fun _ => Res) .fail (k (put d (x s) s) h) (seen (x s))) (@Bool.rec (fun _ => Bool) (notB want) want b)).opt = some r := e'
   have hb : (@Bool.rec (fun _ => Bool) (notB want) want b) = (b == want) := by cases b <;> cases want <;> rfl
   rw [hb] at e2
   rcases opt_bool e2 with ⟨h1, e3⟩ | ⟨h1, e3⟩
   · simp only [guardV, h1]
     rcases opt_bool e3 with ⟨_, e4⟩ | ⟨_, e4⟩
     · exact hk _ _ e4
     · cases e4
   · simp only [guardV, h1]
     exact hk _ _ e3
 | pick gd d c x y => exact pureK_ok (fun u hu => pickK_ok hu) hk e
 | cmp gd d c x y => exact pureK_ok (fun u hu => cmpIntK_ok hu) hk e
 | eqs gd d neg x y => exact pureK_ok (fun u hu => eqStrK_ok hu) hk e
 | index gd d x y => exact pureK_ok (fun u hu => indexK_ok hu) hk e
 | lenS gd d x => exact pureK_ok (fun u hu => lenStrK_ok hu) hk e
 | field gd d off x => exact pureK_ok (fun u hu => fieldK_ok hu) hk e
 | nilc gd d x => exact pureK_ok (fun u hu => nilcK_ok hu) hk e
 | lenL gd d x => exact pureK_ok (fun u hu => lenLK_ok hu) hk e
 | add gd d x y => exact pureK_ok (fun u hu => addK_ok hu) hk e
 | idxA gd d n x y => exact pureK_ok (fun u hu => idxAK_ok hu) hk e
 | ld gd d n x => exact lightK_ok (fun u hu => ldK_ok hu) hk e
theorem runK_ok {r : X × St} {F : S × H -> Option (X × St)} {k : S -> H -> Res} (hk : ∀ s h, (k s h).opt = some r -> F (s, h) = some r) : ∀ {l : List KOp} {s : S} {h : H}, (runK E l s h k).opt = some r -> (runC E (l.map KOp.toC) s h).bind F = some r
 | [], s, h, e => by simp only [List.map_nil, runC, Option.bind_some]; exact hk _ _ e
 | o :: l, s, h, e => by
   simp only [List.map_cons]
   exact stepK_ok (fun s h he => runK_ok hk he) e
end
end Go.Ev
namespace Go.Ev
inductive KC where
 | skip
 | exit (id : Nat)
 | ret
 | seq (a b : KC)
 | cond (t : S -> AV) (a b : KC)
 | block (id : Nat) (a : KC)
 | loop (a : KC)
 | region (rs : List KOp)
 | draw (rs : List CD) (na : Nat)
 | range (key nt : Nat) (fo : S -> AV)
 | fail
def KC.toCC : KC -> CC
 | .skip => .skip
 | .exit id => .exit id
 | .ret => .ret
 | .seq a b => .seq a.toCC b.toCC
 | .cond t a b => .cond t a.toCC b.toCC
 | .block id a => .block id a.toCC
 | .loop a => .loop a.toCC
 | .region rs => .region (rs.map KOp.toC)
 | .draw rs na => .draw rs na
 | .range key nt fo => .range key nt fo
 | .fail => .fail
noncomputable def seenQ (q : Q AV) : Bool := @Q.rec AV (fun _ => Bool) (fun _ _ _ _ _ _ _ _ _ _ _ _ _ _ _ _ => true) q
noncomputable def thenB (a b : Bool) : Bool := @Bool.rec (fun _ => Bool) false b a
noncomputable def touch (s : S) : Bool := thenB (seenQ s.a0) (thenB (seenQ s.a1) (thenB (seenQ s.a2) (thenB (seenQ s.a3) (thenB (seenQ s.a4) (thenB (seenQ s.a5) (thenB (seenQ s.a6) (thenB (seenQ s.a7) (seenQ s.a8))))))))
noncomputable def seqK (F G : St -> Res) (x : St) : Res := @Res.rec (fun _ => Res) .fail (fun y => G y) (fun id y => .exit id y) (fun y => .ret y) (F x)
noncomputable def condK (t : S -> AV) (F G : St -> Res) (x : St) : Res := onBoolR (t x.s) fun b => @Bool.rec (fun _ => Res) (G x) (F x) b
noncomputable def blockK (id : Nat) (F : St -> Res) (x : St) : Res := @Res.rec (fun _ => Res) .fail (fun y => .norm y) (fun j y => @Bool.rec (fun _ => Res) (.exit j y) (.norm y) (Nat.beq j id)) (fun y => .ret y) (F x)
noncomputable def iterK (F : St -> Res) (n : Nat) : St -> Res := @Nat.rec (fun _ => St -> Res) (fun _ => .fail) (fun _ ih x => @Res.rec (fun _ => Res) .fail (fun y => @Bool.rec (fun _ => Res) .fail (tick (ih y)) (touch y.s)) (fun id y => .exit id y) (fun y => .ret y) (F x)) n
def ofOpt : Option (X × St) -> Res
 | none => .fail
 | some (.norm, x) => .norm x
 | some (.exit id, x) => .exit id x
 | some (.ret, x) => .ret x
theorem ofOpt_opt (r : Option (X × St)) : (ofOpt r).opt = r := by
 rcases r with _ | ⟨_ | _ | _, x⟩ <;> rfl
noncomputable def semK (E : Env) (n : Nat) (c : KC) : St -> Res :=
 @KC.rec (fun _ => St -> Res) (fun x => .norm x) (fun id x => .exit id x) (fun x => .ret x) (fun _ _ f g x => seqK f g x) (fun t _ _ f g x => condK t f g x) (fun id _ f x => blockK id f x) (fun _ f x => iterK f n x)
   (fun rs x => runK E rs x.s x.h fun s h => .norm ⟨s, h, x.df⟩) (fun rs na x => ofOpt (drawF (rs.map (CD.toD E)) na x)) (fun key nt fo x => ofOpt (rangeF E key nt fo x)) (fun _ => .fail) c
section
variable {E : Env}
theorem opt_seq {F G : St -> Res} {F' G' : SemF} (hF : ∀ x r, (F x).opt = some r -> F' x = some r) (hG : ∀ x r, (G x).opt = some r -> G' x = some r) (x : St) (r : X × St) (h : (seqK F G x).opt = some r) : seqF F' G' x = some r := by
 unfold seqK at h
 unfold seqF
 cases hx : F x with
 | fail => rw [hx] at h; cases h
 | norm y => rw [hx] at h; rw [hF x (.norm, y) (by rw [hx]; rfl)]; exact hG y r h
 | exit id y => rw [hx] at h; rw [hF x (.exit id, y) (by rw [hx]; rfl)]; exact h
 | ret y => rw [hx] at h; rw [hF x (.ret, y) (by rw [hx]; rfl)]; exact h
theorem opt_cond {t : S -> AV} {F G : St -> Res} {F' G' : SemF} (hF : ∀ x r, (F x).opt = some r -> F' x = some r) (hG : ∀ x r, (G x).opt = some r -> G' x = some r) (x : St) (r : X × St) (h : (condK t F G x).opt = some r) : condF t F' G' x = some r := by
 unfold condK at h
 unfold condF
 cases ht : t x.s <;> rw [ht] at h <;> first | cases h | skip
 rename_i b
 cases b
 · exact hG x r h
 · exact hF x r h
theorem opt_block {id : Nat} {F : St -> Res} {F' : SemF} (hF : ∀ x r, (F x).opt = some r -> F' x = some r) (x : St) (r : X × St) (h : (blockK id F x).opt = some r) : blockF id F' x = some r := by
 unfold blockK at h
 unfold blockF
 cases hx : F x with
 | fail => rw [hx] at h; cases h
 | norm y => rw [hx] at h; rw [hF x (.norm, y) (by rw [hx]; rfl)]; exact h
 | exit j y =>
   rw [hx] at h
   rw [hF x (.exit j, y) (by rw [hx]; rfl)]
   simp only at h ⊢
   cases hb : Nat.beq j id with
   | false => rw [hb] at h; exact h
   | true => rw [hb] at h; exact h
 | ret y => rw [hx] at h; rw [hF x (.ret, y) (by rw [hx]; rfl)]; exact h
theorem opt_iter {F : St -> Res} {F' : SemF} (hF : ∀ x r, (F x).opt = some r -> F' x = some r) : ∀ (n : Nat) (x : St) (r : X × St), (iterK F n x).opt = some r -> iterF F' n x = some r
 | 0, x, r, h => by cases h
 | n + 1, x, r, h => by
   have h' : (@Res.rec (fun _ => Res) .fail (fun y => @Bool.rec (fun _ => Res) .fail (tick (iterK F n y)) (touch y.s)) (fun id y => .exit id y) (fun y => .ret y) (F x)).opt = some r := h
   simp only [iterF]
   cases hx : F x with
   | fail => rw [hx] at h'; cases h'
   | norm y =>
     rw [hx] at h'
     rw [hF x (.norm, y) (by rw [hx]; rfl)]
     have h' : (@Bool.rec (fun _ => Res) .fail (tick (iterK F n y)) (touch y.s)).opt = some r := h'
     rcases opt_bool (t := touch y.s) (a := .fail) (b := tick (iterK F n y)) (r := r) h' with ⟨_, h2⟩ | ⟨_, h2⟩
     · exact opt_iter hF n y r h2
     · cases h2
   | exit id y => rw [hx] at h'; rw [hF x (.exit id, y) (by rw [hx]; rfl)]; exact h'
   | ret y => rw [hx] at h'; rw [hF x (.ret, y) (by rw [hx]; rfl)]; exact h'
theorem semK_ok {n : Nat} : ∀ (c : KC) (x : St) (r : X × St), (semK E n c x).opt = some r -> semC E n c.toCC x = some r
 | .skip, x, r, h => h
 | .exit _, x, r, h => h
 | .ret, x, r, h => h
 | .seq a b, x, r, h => opt_seq (semK_ok a) (semK_ok b) x r h
 | .cond t a b, x, r, h => opt_cond (semK_ok a) (semK_ok b) x r h
 | .block id a, x, r, h => opt_block (semK_ok a) x r h
 | .loop a, x, r, h => opt_iter (semK_ok a) n x r h
 | .region rs, x, r, h => by
   have := runK_ok (E := E) (F := fun q => some (.norm, ⟨q.1, q.2, x.df⟩)) (k := fun s h => .norm ⟨s, h, x.df⟩) (fun s h e => e) (l := rs) (s := x.s) (h := x.h) (r := r) h
   show regionC E (rs.map KOp.toC) x = some r
   unfold regionC
   cases hq : runC E (rs.map KOp.toC) x.s x.h with
   | none => rw [hq] at this; simp at this
   | some q => rw [hq] at this; simpa using this
 | .draw rs na, x, r, h => by
   have h' : (ofOpt (drawF (rs.map (CD.toD E)) na x)).opt = some r := h
   rw [ofOpt_opt] at h'
   exact h'
 | .range key nt fo, x, r, h => by
   have h' : (ofOpt (rangeF E key nt fo x)).opt = some r := h
   rw [ofOpt_opt] at h'
   exact h'
 | .fail, x, r, h => by cases h
end
def cmpOf : BinOp -> Option Cmp
 | .eql => some .eql
 | .neq => some .neq
 | .lss => some .lss
 | .leq => some .leq
 | .gtr => some .gtr
 | .geq => some .geq
 | _ => none
theorem cmpOf_op {b : BinOp} {c : Cmp} (h : cmpOf b = some c) : c.op = b := by
 cases b <;> simp [cmpOf] at h <;> subst h <;> rfl
def one1 (xs : List (S -> AV)) (d : KOp) (f : (S -> AV) -> KOp) : KOp := match xs with
 | [] => d
 | x :: l => match l with
   | [] => f x
   | _ :: _ => d
def one2 (xs : List (S -> AV)) (d : KOp) (f : (S -> AV) -> (S -> AV) -> KOp) : KOp := match xs with
 | [] => d
 | x :: l => match l with
   | [] => d
   | y :: l => match l with
     | [] => f x y
     | _ :: _ => d
def one3 (xs : List (S -> AV)) (d : KOp) (f : (S -> AV) -> (S -> AV) -> (S -> AV) -> KOp) : KOp := match xs with
 | [] => d
 | x :: l => one2 l d (f x)
def decoMv (c : COp) : KOp := match c.dst with
 | none => .gen c
 | some d => one1 c.xs (.gen c) fun x => match c.guard with
   | none => .mv d x
   | some p => .gmv p.1 p.2 d x
def decoBin (P : Program) (b : BinOp) (t : TypeId) (c : COp) : KOp := match P.underlying t with
 | some d => match d with
   | .int _ => match cmpOf b with
     | some m => one2 c.xs (.gen c) fun x y => .cmp c.guard c.dst m x y
     | none => match b with
       | .add => one2 c.xs (.gen c) fun x y => .add c.guard c.dst x y
       | _ => .gen c
   | .string => match b with
     | .eql => one2 c.xs (.gen c) fun x y => .eqs c.guard c.dst false x y
     | .neq => one2 c.xs (.gen c) fun x y => .eqs c.guard c.dst true x y
     | _ => .gen c
   | _ => .gen c
 | none => .gen c
def decoFld (P : Program) (t : TypeId) (i : Nat) (c : COp) : KOp := match P.underlying t with
 | some d => match d with
   | .struct fs => match fs[i]? with
     | some f => one1 c.xs (.gen c) fun x => .field c.guard c.dst f.offset x
     | none => .gen c
   | _ => .gen c
 | none => .gen c
def decoLen (P : Program) (q : Call) (c : COp) : KOp := match q.callee with
 | .builtin b => match b with
   | .len => match q.argTypes[0]? with
     | some t => match P.underlying t with
       | some d => match d with
         | .string => one1 c.xs (.gen c) fun x => .lenS c.guard c.dst x
         | .slice _ => one1 c.xs (.gen c) fun x => .lenL c.guard c.dst x
         | _ => .gen c
       | none => .gen c
     | none => .gen c
   | _ => .gen c
 | _ => .gen c
def decoIdx (P : Program) (t : TypeId) (c : COp) : KOp := match P.underlying t with
 | some d => match d with
   | .slice e => match P.info? e with
     | some ei => one2 c.xs (.gen c) fun x y => .idxA c.guard c.dst ei.size x y
     | none => .gen c
   | _ => .gen c
 | none => .gen c
def decoLd (P : Program) (t : TypeId) (c : COp) : KOp := match P.underlying t with
 | some d => match P.info? t with
   | some i => bif aggD d then .gen c else one1 c.xs (.gen c) fun x => .ld c.guard c.dst i.size x
   | none => .gen c
 | none => .gen c
def deco (P : Program) (op : Op) (c : COp) : KOp := match op with
 | .move _ => decoMv c
 | .assign _ => decoMv c
 | .pick _ _ _ => one3 c.xs (.gen c) fun a b e => .pick c.guard c.dst a b e
 | .binOp b t _ _ _ => decoBin P b t c
 | .index _ _ _ => one2 c.xs (.gen c) fun x y => .index c.guard c.dst x y
 | .fieldAddr t _ i => decoFld P t i c
 | .call q => decoLen P q c
 | .nilCheck _ => one1 c.xs (.gen c) fun x => .nilc c.guard c.dst x
 | .indexAddr t _ _ => decoIdx P t c
 | .load t _ => decoLd P t c
 | _ => .gen c
theorem one1_toC {c : COp} {f : (S -> AV) -> KOp} (h : ∀ x, c.xs = [x] -> (f x).toC = c) : (one1 c.xs (.gen c) f).toC = c := by
 cases hx : c.xs with
 | nil => rfl
 | cons x l => cases l with
   | nil => exact h x hx
   | cons _ _ => rfl
theorem one2_toC {c : COp} {f : (S -> AV) -> (S -> AV) -> KOp} (h : ∀ x y, c.xs = [x, y] -> (f x y).toC = c) : (one2 c.xs (.gen c) f).toC = c := by
 cases hx : c.xs with
 | nil => rfl
 | cons x l => cases l with
   | nil => rfl
   | cons y l => cases l with
     | nil => exact h x y hx
     | cons _ _ => rfl
theorem one3_toC {c : COp} {f : (S -> AV) -> (S -> AV) -> (S -> AV) -> KOp} (h : ∀ x y z, c.xs = [x, y, z] -> (f x y z).toC = c) : (one3 c.xs (.gen c) f).toC = c := by
 cases hx : c.xs with
 | nil => rfl
 | cons x l => cases l with
   | nil => rfl
   | cons y l => cases l with
     | nil => rfl
     | cons z l => cases l with
       | nil => exact h x y z hx
       | cons _ _ => rfl
theorem cop_eq {c : COp} {gd : Option ((S -> AV) × Bool)} {d : Option Nat} {xs : List (S -> AV)} {k : OpK} (h1 : c.guard = gd) (h2 : c.dst = d) (h3 : c.xs = xs) (h4 : c.k = k) : (⟨gd, d, xs, k⟩ : COp) = c := by
 subst h1 h2 h3 h4; rfl
theorem decoMv_toC {c : COp} (h : c.k = .std (.pure moveV)) : (decoMv c).toC = c := by
 unfold decoMv
 cases hd : c.dst with
 | none => rfl
 | some d =>
   refine one1_toC fun x hx => ?_
   cases hg : c.guard with
   | none => exact cop_eq hg hd hx h
   | some p => exact cop_eq hg hd hx h
theorem denOper_k {P : Program} {nt : Nat} {ops : Array Oper} {o : Oper} {c : COp} (h : denOper P nt ops o = some c) : denK P o.op = some c.k := by
 unfold denOper at h
 cases hd : dstOk nt o.dst with
 | false => rw [hd] at h; simp at h
 | true =>
   rw [hd] at h
   simp only [cond_true] at h
   split at h
   · rename_i gd xs k h1 h2 h3; cases h; exact h3
   · cases h
theorem deco_toC {P : Program} {op : Op} {c : COp} (h : denK P op = some c.k) : (deco P op c).toC = c := by
 unfold deco
 split
 · simp only [denK, isCallV, denOp, cond_false, Option.some.injEq] at h
   exact decoMv_toC h.symm
 · simp only [denK, isCallV, denOp, cond_false, Option.some.injEq] at h
   exact decoMv_toC h.symm
 · simp only [denK, isCallV, denOp, cond_false, Option.some.injEq] at h
   exact one3_toC fun x y z hx => cop_eq rfl rfl hx h.symm
 · rename_i b t _ _ _
   unfold decoBin
   cases hu : P.underlying t with
   | none => rfl
   | some d =>
     simp only
     split
     · simp only [denK, isCallV, denOp, denBin, hu, cond_false, Option.some.injEq] at h
       split
       · rename_i m hm
         exact one2_toC fun x y hx => cop_eq rfl rfl hx (by rw [cmpOf_op hm]; exact h.symm)
       · split
         · exact one2_toC fun x y hx => cop_eq rfl rfl hx h.symm
         · rfl
     · simp only [denK, isCallV, denOp, denBin, hu, cond_false, Option.some.injEq] at h
       split
       · exact one2_toC fun x y hx => cop_eq rfl rfl hx h.symm
       · exact one2_toC fun x y hx => cop_eq rfl rfl hx h.symm
       · rfl
     · rfl
 · rename_i t _ _
   simp only [denK, isCallV, denOp, cond_false] at h
   cases hu : P.underlying t with
   | none => rw [hu] at h; simp at h
   | some u =>
     rw [hu] at h
     cases u <;> simp only [Option.some.injEq, reduceCtorEq] at h
     exact one2_toC fun x y hx => cop_eq rfl rfl hx h.symm
 · rename_i t _ i
   unfold decoFld
   cases hu : P.underlying t with
   | none => rfl
   | some d =>
     simp only
     split
     · rename_i fs
       cases hf : fs[i]? with
       | none => rfl
       | some f =>
         simp only [denK, isCallV, denOp, hu, hf, cond_false] at h
         cases hi : P.info? f.type with
         | none => rw [hi] at h; simp at h
         | some fi =>
           rw [hi] at h
           simp only at h
           by_cases hz : fi.size ≠ 0
           · rw [if_pos hz] at h
             simp only [Option.some.injEq] at h
             exact one1_toC fun x hx => cop_eq rfl rfl hx h.symm
           · rw [if_neg hz] at h
             simp at h
     · rfl
 · rename_i q
   unfold decoLen
   cases hc : q.callee with
   | builtin b =>
     simp only
     split
     · cases ht : q.argTypes[0]? with
       | none => rfl
       | some t =>
         simp only
         cases hu : P.underlying t with
         | none => rfl
         | some d =>
           simp only
           split
           · simp only [denK, isCallV, denOp, hc, cond_false, denBuiltin, ht, denLen, hu, Option.some.injEq] at h
             exact one1_toC fun x hx => cop_eq rfl rfl hx h.symm
           · simp only [denK, isCallV, denOp, hc, cond_false, denBuiltin, ht, denLen, hu, Option.some.injEq] at h
             exact one1_toC fun x hx => cop_eq rfl rfl hx h.symm
           · rfl
     · rfl
   | _ => rfl
 · simp only [denK, isCallV, denOp, cond_false, Option.some.injEq] at h
   exact one1_toC fun x hx => cop_eq rfl rfl hx h.symm
 · rename_i t _ _
   unfold decoIdx
   cases hu : P.underlying t with
   | none => rfl
   | some d =>
     simp only
     split
     · rename_i e
       cases hi : P.info? e with
       | none => rfl
       | some ei =>
         simp only [denK, isCallV, denOp, hu, hi, cond_false, Option.some.injEq] at h
         exact one2_toC fun x y hx => cop_eq rfl rfl hx h.symm
     · rfl
 · rename_i t _
   unfold decoLd
   cases hu : P.underlying t with
   | none => rfl
   | some d =>
     cases hi : P.info? t with
     | none => rfl
     | some i =>
       simp only [denK, isCallV, denOp, hu, hi, cond_false, Option.some.injEq] at h
       simp only
       cases ha : aggD d with
       | true => rfl
       | false => exact one1_toC fun x hx => cop_eq rfl rfl hx (by rw [← ha]; exact h.symm)
 · rfl
def denOpersK (P : Program) (nt : Nat) (ops : Array Oper) : List Oper -> Option (List KOp)
 | [] => some []
 | o :: l => match denOper P nt ops o, denOpersK P nt ops l with
   | some x, some r => some (deco P o.op x :: r)
   | _, _ => none
theorem denOpersK_eq {P : Program} {nt : Nat} {ops : Array Oper} : ∀ (l : List Oper), denOpers P nt ops l = (denOpersK P nt ops l).map (List.map KOp.toC)
 | [] => rfl
 | o :: l => by
   simp only [denOpers, denOpersK, denOpersK_eq l]
   cases h : denOper P nt ops o with
   | none => rfl
   | some x =>
     cases denOpersK P nt ops l with
     | none => rfl
     | some r => simp [deco_toC (denOper_k h)]
def denCK (P : Program) (nt : Nat) : Option Nat -> Code -> Option KC
 | _, .skip => some .skip
 | _, .label _ => some .skip
 | _, .exit id => some (.exit id)
 | _, .ret => some .ret
 | k, .seq a b => match denCK P nt k a, denCK P nt (k.map (· + (ranges a).length)) b with
   | some x, some y => some (.seq x y)
   | _, _ => none
 | k, .cond t a b => match opd nt P.globals.size t, denCK P nt k a, denCK P nt (k.map (· + (ranges a).length)) b with
   | some t, some x, some y => some (.cond t x y)
   | _, _, _ => none
 | k, .block id a => match denCK P nt k a with | some x => some (.block id x) | none => none
 | k, .loop a => match denCK P nt k a with | some x => some (.loop x) | none => none
 | _, .region _ ops false => match denOpersK P nt ops ops.toList with
   | some cs => some (.region cs)
   | none => some .fail
 | _, .region _ ops true => match denOpers P nt ops ops.toList with
   | some cs => some (.draw (cdsOf ops ops.toList cs (presOf ops.toList [])) (cs.filter fun c => isAlloc c.k).length)
   | none => some .fail
 | some key, .rangeFunc f _ _ _ => match opd nt P.globals.size f with
   | some fo => some (.range key nt fo)
   | none => none
 | _, _ => some .fail
def statR (P : Program) (nt : Nat) (ops : Array Oper) : Bool := match denOpers P nt ops ops.toList with
 | some cs => statOk nt ops.toList ((cdsOf ops ops.toList cs (presOf ops.toList [])).map (CD.toD env0)) && Nat.beq (cdsOf ops ops.toList cs (presOf ops.toList [])).length cs.length
 | none => true
def statC (P : Program) (nt : Nat) : Code -> Bool
 | .seq a b => statC P nt a && statC P nt b
 | .cond _ a b => statC P nt a && statC P nt b
 | .block _ a => statC P nt a
 | .loop a => statC P nt a
 | .region _ ops true => statR P nt ops
 | _ => true
theorem denCK_eq {P : Program} {nt : Nat} : ∀ (c : Code) (k : Option Nat), statC P nt c = true -> denC P nt k c = (denCK P nt k c).map KC.toCC
 | .skip, _, _ => rfl
 | .label _, _, _ => rfl
 | .exit _, _, _ => rfl
 | .ret, _, _ => rfl
 | .seq a b, k, h => by
   simp only [statC, Bool.and_eq_true] at h
   simp only [denC, denCK, denCK_eq a _ h.1, denCK_eq b _ h.2]
   cases denCK P nt k a <;> cases denCK P nt (k.map (· + (ranges a).length)) b <;> rfl
 | .cond t a b, k, h => by
   simp only [statC, Bool.and_eq_true] at h
   simp only [denC, denCK, denCK_eq a _ h.1, denCK_eq b _ h.2]
   cases opd nt P.globals.size t <;> cases denCK P nt k a <;> cases denCK P nt (k.map (· + (ranges a).length)) b <;> rfl
 | .block _ a, k, h => by
   simp only [statC] at h
   simp only [denC, denCK, denCK_eq a _ h]
   cases denCK P nt k a <;> rfl
 | .loop a, k, h => by
   simp only [statC] at h
   simp only [denC, denCK, denCK_eq a _ h]
   cases denCK P nt k a <;> rfl
 | .region _ ops false, k, _ => by
   simp only [denC, denCK, denOpersK_eq]
   cases denOpersK P nt ops ops.toList <;> rfl
 | .region _ ops true, k, h => by
   simp only [statC, statR] at h
   simp only [denC, denCK, denDraw]
   cases hd : denOpers P nt ops ops.toList with
   | none => rfl
   | some cs => rw [hd] at h; simp only at h; simp only [h, cond_true]; rfl
 | .rangeFunc f _ _ _, some key, _ => by
   simp only [denC, denCK]
   cases opd nt P.globals.size f <;> rfl
 | .rangeFunc f _ _ _, none, _ => by simp only [denC, denCK]; rfl
 | .scope _, k, _ => by cases k <;> rfl
 | .goto _, k, _ => by cases k <;> rfl
 | .refuse _, k, _ => by cases k <;> rfl
structure KF where
 nt : Nat
 rs : List RV
 c : KC
def denFnB (P : Program) (f : FuncId) (fn : Func) : Option KF := match fn.body with
 | some body => bif (fn.name != "runtime.NumGoroutine") && Nat.ble fn.ntmps 256 && Nat.ble (ranges body).length 64 then
     match denRes P fn.ntmps fn.results.toList, denCK P fn.ntmps (some (keyOf f)) body with
     | some rs, some c => some ⟨fn.ntmps, rs, c⟩
     | _, _ => none
   else none
 | none => none
def denFnK (P : Program) (tab : Nat -> Option Func) (f : FuncId) : Option KF := match tab f with
 | some fn => denFnB P f fn
 | none => none
def statFn (P : Program) (fn : Func) : Bool := match fn.body with
 | some body => statC P fn.ntmps body
 | none => true
def TabOk (P : Program) (tab : Nat -> Option Func) : Prop := ∀ f fn, tab f = some fn -> P.funcs[f]? = some fn /\ statFn P fn = true
theorem denFnK_eq {P : Program} {tab : Nat -> Option Func} (ht : TabOk P tab) {f : FuncId} {d : KF} (h : denFnK P tab f = some d) : denFn P f = some ⟨d.nt, d.rs, d.c.toCC⟩ := by
 unfold denFnK at h
 cases hf : tab f with
 | none => rw [hf] at h; cases h
 | some fn =>
   rw [hf] at h
   simp only at h
   obtain ⟨h1, hst⟩ := ht f fn hf
   unfold denFnB at h
   unfold statFn at hst
   unfold denFn
   rw [h1]
   simp only
   cases hb : fn.body with
   | none => rw [hb] at h; cases h
   | some body =>
     rw [hb] at h hst
     simp only at h hst ⊢
     cases hc : ((fn.name != "runtime.NumGoroutine") && Nat.ble fn.ntmps 256 && Nat.ble (ranges body).length 64) with
     | false => rw [hc] at h; simp at h
     | true =>
       rw [hc] at h
       simp only [cond_true] at h ⊢
       rw [denCK_eq body _ hst]
       cases hr : denRes P fn.ntmps fn.results.toList with
       | none => rw [hr] at h; simp at h
       | some rs =>
         rw [hr] at h
         cases hk : denCK P fn.ntmps (some (keyOf f)) body with
         | none => rw [hk] at h; simp at h
         | some c => rw [hk] at h; simp only [Option.some.injEq] at h; subst h; rfl
noncomputable def funcK (nt : Nat) (rs : List RV) (F : St -> Res) (args : List AV) (h : H) : Option (AV × H) :=
 @Bool.rec (fun _ => Option (AV × H)) none (@Res.rec (fun _ => Option (AV × H)) none (fun x => finF rs x) (fun _ _ => none) (fun x => finF rs x) (F ⟨putArgs args 0 s0, h, []⟩)) (Nat.ble args.length nt)
theorem funcK_ok {nt : Nat} {rs : List RV} {F : St -> Res} {F' : SemF} (hF : ∀ x r, (F x).opt = some r -> F' x = some r) {args : List AV} {h : H} {r : AV × H} (e : funcK nt rs F args h = some r) : funcF nt rs F' args h = some r := by
 unfold funcK at e
 unfold funcF
 cases hb : Nat.ble args.length nt with
 | false => rw [hb] at e; cases e
 | true =>
   rw [hb] at e
   simp only [cond_true]
   cases hx : F ⟨putArgs args 0 s0, h, []⟩ with
   | fail => rw [hx] at e; cases e
   | norm y => rw [hx] at e; rw [hF _ (.norm, y) (by rw [hx]; rfl)]; exact e
   | exit id y => rw [hx] at e; cases e
   | ret y => rw [hx] at e; rw [hF _ (.ret, y) (by rw [hx]; rfl)]; exact e
noncomputable def envK (P : Program) (ext : Ext1) (tab : Nat -> Option Func) (n : Nat) : Env :=
 @Nat.rec (fun _ => Env) env0 (fun n E => {
   call := fun f args h => @Option.rec _ (fun _ => Option (AV × H)) (@Option.rec KF (fun _ => Option (AV × H)) none (fun d => funcK d.nt d.rs (semK E n d.c) args h) (denFnK P tab f)) (fun F => F args h) (ext f)
   yield := yieldF (loopsN P E n) }) n
section
variable {P : Program} {ρ : Rho}
theorem FnOk.mono {f : FuncId} {F G : List AV -> H -> Option (AV × H)} (h : FnOk P ρ f F) (hg : ∀ args h r, G args h = some r -> F args h = some r) : FnOk P ρ f G :=
 fun σ args hp v h' cs w a b c d => h σ args hp v h' cs w a b c (hg _ _ _ d)
theorem envK_succ (ext : Ext1) (tab : Nat -> Option Func) (n : Nat) : envK P ext tab (n + 1) = {
   call := fun f args h => @Option.rec _ (fun _ => Option (AV × H)) (@Option.rec KF (fun _ => Option (AV × H)) none (fun d => funcK d.nt d.rs (semK (envK P ext tab n) n d.c) args h) (denFnK P tab f)) (fun F => F args h) (ext f)
   yield := yieldF (loopsN P (envK P ext tab n) n) } := rfl
theorem envK_ok (hm : P.follows .mixedOrders = true) (hρ : ρ.loops = loopsOf P) {ext : Ext1} {tab : Nat -> Option Func} (ht : TabOk P tab) (hx : ∀ f F, ext f = some F -> FnOk P ρ f F) : ∀ n, EnvOk P ρ (envK P ext tab n)
 | 0 => ⟨fun f => (by intro σ args h v h' cs w _ _ _ hv; exact absurd hv (by rintro ⟨⟩)), (by intro σ b args h v h' cs w p _ _ _ _ hv; exact absurd hv (by rintro ⟨⟩))⟩
 | n + 1 => by
   have ih := envK_ok hm hρ ht hx n
   rw [envK_succ]
   refine ⟨fun f => ?_, yield_ok (loopsN_ok hm hρ ih n)⟩
   simp only
   cases he : ext f with
   | some F => exact hx f F he
   | none =>
     cases hk : denFnK P tab f with
     | some d => exact (denFn_ok hm hρ ih (denFnK_eq ht hk) n).mono fun args h r e => funcK_ok (semK_ok d.c) e
     | none => intro σ args h v h' cs w _ _ _ hv; cases hv
theorem envK_calls (hm : P.follows .mixedOrders = true) (hρ : ρ.loops = loopsOf P) {ext : Ext1} {tab : Nat -> Option Func} (ht : TabOk P tab) (hx : ∀ f F, ext f = some F -> FnOk P ρ f F) {f : FuncId} (hf : ext f = none) {n : Nat} {σ : Sig} {args : List AV} {h : H} {v : AV} {h' : H} {cs : List Value} {w : World} (hg : GOk P σ) (hargs : concL ρ σ args = some cs) (hH : HRel ρ σ h w)
   (hv : (envK P ext tab n).call f args h = some (v, h')) : Calls P f cs.toArray w fun e w' => ∃ c, e = .returned c /\ After ρ σ h w v h' c w' := by
 cases n with
 | zero => cases hv
 | succ n =>
   rw [envK_succ] at hv
   simp only [hf] at hv
   cases hk : denFnK P tab f with
   | none => rw [hk] at hv; cases hv
   | some d =>
     rw [hk] at hv
     exact denFn_calls hm hρ (envK_ok hm hρ ht hx n) (denFnK_eq ht hk) n hg hargs hH (funcK_ok (semK_ok d.c) hv)
end
end Go.Ev
namespace Go.Ev
inductive BT where
 | e
 | n (k : Nat) (fn : Func) (l r : BT)
noncomputable def BT.find (t : BT) (f : Nat) : Option Func := @BT.rec (fun _ => Option Func) none (fun k fn _ _ a b => @Bool.rec (fun _ => Option Func) (@Bool.rec (fun _ => Option Func) b a (Nat.blt f k)) (some fn) (Nat.beq f k)) t
def BT.Ok (P : Program) : BT -> Prop
 | .e => True
 | .n k fn l r => (P.funcs[k]? = some fn /\ statFn P fn = true) /\ l.Ok P /\ r.Ok P
theorem BT.find_ok {P : Program} : ∀ {t : BT}, t.Ok P -> TabOk P t.find
 | .e, _, f, fn, h => by cases h
 | .n k fn' l r, ⟨h1, h2, h3⟩, f, fn, h => by
   have h : @Bool.rec (fun _ => Option Func) (@Bool.rec (fun _ => Option Func) (r.find f) (l.find f) (Nat.blt f k)) (some fn') (Nat.beq f k) = some fn := h
   cases hb : Nat.beq f k with
   | true =>
     rw [hb] at h
     have e := Nat.eq_of_beq_eq_true hb
     subst e
     cases h
     exact h1
   | false =>
     rw [hb] at h
     cases hl : Nat.blt f k with
     | true => rw [hl] at h; exact BT.find_ok h2 f fn h
     | false => rw [hl] at h; exact BT.find_ok h3 f fn h
end Go.Ev
