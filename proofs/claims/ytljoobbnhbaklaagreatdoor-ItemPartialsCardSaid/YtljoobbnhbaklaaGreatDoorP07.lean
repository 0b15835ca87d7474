/- ItemPartials, one part of the proof: BC, BD, BE. -/
import Derived.Test.YtljoobbnhbaklaaGreatDoorP05
import Derived.Below
set_option linter.all false
set_option maxRecDepth 100000
set_option maxHeartbeats 16000000
namespace Go.Ev
def entB : List (AV × AV × Nat) -> List (AV × AV × Nat) -> Bool
 | [], [] => true
 | a :: l, b :: m => AV.beq a.1 b.1 && AV.beq a.2.1 b.2.1 && Nat.beq a.2.2 b.2.2 && entB l m
 | _, _ => false
theorem entB_eq : ∀ {a b : List (AV × AV × Nat)}, entB a b = true -> a = b
 | [], [], _ => rfl
 | (x, y, z) :: l, (x', y', z') :: m, h => by
   simp only [entB, Bool.and_eq_true] at h
   obtain ⟨⟨⟨h1, h2⟩, h3⟩, h4⟩ := h
   rw [AV.beq_eq h1, AV.beq_eq h2, Nat.eq_of_beq_eq_true h3, entB_eq h4]
 | [], _ :: _, h => by simp [entB] at h
 | _ :: _, [], h => by simp [entB] at h
def ABlk.same : ABlk -> ABlk -> Bool
 | .cells e vs t w, .cells e' vs' t' w' => Nat.beq e e' && AV.beqL vs vs' && (t == t') && (w == w')
 | .map es c, .map es' c' => entB es es' && Nat.beq c c'
 | .ro e vs, .ro e' vs' => Nat.beq e e' && AV.beqL vs vs'
 | _, _ => false
theorem ABlk.same_eq {a b : ABlk} (h : a.same b = true) : a = b := by
 cases a <;> cases b <;> simp only [ABlk.same, Bool.and_eq_true, Bool.false_eq_true] at h
 · obtain ⟨⟨⟨h1, h2⟩, h3⟩, h4⟩ := h
   rw [Nat.eq_of_beq_eq_true h1, AV.beqL_eq h2, eq_of_beq h3, eq_of_beq h4]
 · obtain ⟨h1, h2⟩ := h
   rw [entB_eq h1, Nat.eq_of_beq_eq_true h2]
 · obtain ⟨h1, h2⟩ := h
   rw [Nat.eq_of_beq_eq_true h1, AV.beqL_eq h2]
abbrev Blks := List (Nat × ABlk)
def hasAll (h : H) : Blks -> Bool
 | [] => true
 | p :: l => (match h.get p.1 with | some y => y.same p.2 | none => false) && hasAll h l
theorem hasAll_mem {h : H} : ∀ {l : Blks}, hasAll h l = true -> ∀ {b : Nat} {x : ABlk}, (b, x) ∈ l -> h.get b = some x
 | [], _, b, x, hm => by cases hm
 | p :: l, h1, b, x, hm => by
   simp only [hasAll, Bool.and_eq_true] at h1
   rcases List.mem_cons.1 hm with e | hm
   · cases e
     cases hg : h.get b with
     | none => rw [hg] at h1; simp at h1
     | some y => rw [hg] at h1; rw [ABlk.same_eq h1.1]
   · exact hasAll_mem h1.2 hm
def small (l : Blks) : Bool := l.all fun p => Nat.blt p.1 maxT
theorem small_mem {l : Blks} (h : small l = true) {p : Nat × ABlk} (hp : p ∈ l) : p.1 < maxT := by
 simpa using List.all_eq_true.1 h p hp
def putL (h : H) : Blks -> H
 | [] => h
 | p :: l => putL (h.upd p.1 (some p.2)) l
def dropL (h : H) : Blks -> H
 | [] => h
 | p :: l => dropL (h.upd p.1 none) l
theorem putL_get : ∀ {l : Blks} {h : H} {b : Nat} {x : ABlk}, (∀ p ∈ l, p.1 < maxT) -> (putL h l).get b = some x -> (b, x) ∈ l ∨ h.get b = some x
 | [], h, b, x, _, e => .inr e
 | p :: l, h, b, x, hs, e => by
   rcases putL_get (fun q hq => hs q (List.mem_cons_of_mem _ hq)) e with h1 | h1
   · exact .inl (List.mem_cons_of_mem _ h1)
   · rw [H.get_upd _ _ _ _ (hs p (List.mem_cons_self ..))] at h1
     by_cases e1 : b = p.1
     · rw [if_pos e1] at h1
       cases h1
       subst e1
       exact .inl (List.mem_cons_self ..)
     · rw [if_neg e1] at h1
       exact .inr h1
theorem dropL_get : ∀ {l : Blks} {h : H} {b : Nat} {x : ABlk}, (∀ p ∈ l, p.1 < maxT) -> (dropL h l).get b = some x -> h.get b = some x /\ ∀ p ∈ l, p.1 ≠ b
 | [], h, b, x, _, e => ⟨e, fun p hp => by cases hp⟩
 | p :: l, h, b, x, hs, e => by
   obtain ⟨h1, h2⟩ := dropL_get (fun q hq => hs q (List.mem_cons_of_mem _ hq)) e
   rw [H.get_upd _ _ _ _ (hs p (List.mem_cons_self ..))] at h1
   by_cases e1 : b = p.1
   · rw [if_pos e1] at h1; cases h1
   · rw [if_neg e1] at h1
     refine ⟨h1, fun q hq => ?_⟩
     rcases List.mem_cons.1 hq with rfl | hq
     · exact Ne.symm e1
     · exact h2 q hq
structure Memo where
 args : List AV
 pre : Blks
 nx : Nat
 v : AV
 post : Blks
 nx2 : Nat
def Memo.heap (m : Memo) : H := putL ⟨.e, m.nx⟩ m.pre
def memoF (m : Memo) (args : List AV) (h : H) : Option (AV × H) :=
 bif AV.beqL args m.args && Nat.beq h.nx m.nx && hasAll h m.pre then some (m.v, ⟨(putL (dropL h m.pre) m.post).t, m.nx2⟩) else none
def memoChk (m : Memo) (r : Option (AV × H)) : Bool := match r with
 | some (v, h) => AV.beq v m.v && Nat.ble h.nx m.nx2 && hasAll h m.post && small m.pre && small m.post
 | none => false
theorem putL_nx : ∀ {l : Blks} {h : H}, (putL h l).nx = h.nx
 | [], _ => rfl
 | p :: l, h => by rw [putL, putL_nx]; rfl
theorem ORel.some {ρ : Rho} {σ : Sig} {p : Place} {o : Option Obj} {x : ABlk} (h : ORel ρ σ p o x) : ∃ y, o = some y := by
 cases x with
 | cells => obtain ⟨arr, fz, rfl, _⟩ := h; exact ⟨_, rfl⟩
 | map => obtain ⟨_, ms, rfl, _⟩ := h; exact ⟨_, rfl⟩
 | mapIter => obtain ⟨_, q, _, rfl⟩ := h; exact ⟨_, rfl⟩
 | loop => obtain ⟨_, a, q, l, _, _, _, rfl⟩ := h; exact ⟨_, rfl⟩
 | deferred => obtain ⟨_, rfl⟩ := h; exact ⟨_, rfl⟩
 | ro => obtain ⟨cs, _, rfl, _⟩ := h; exact ⟨_, rfl⟩
theorem Ret.mono {P : Program} {f : Frame} {w : World} {R R' : Value -> World -> Prop} (h : Ret P f w R) (hr : ∀ v w, R v w -> R' v w) : Ret P f w R' :=
 fun c cs => let ⟨v, w', q, s⟩ := h c cs; ⟨v, w', hr _ _ q, s⟩
theorem After.frame {ρ : Rho} {σ : Sig} {h hp h1 : H} {w w' : World} {v : AV} {c : Value} {pre post : Blks} {nx2 : Nat} (hH : HRel ρ σ h w) (hpre : ∀ b x, hp.get b = some x -> (b, x) ∈ pre) (hin : ∀ b x, (b, x) ∈ pre -> h.get b = some x) (hnx : hp.nx = h.nx)
   (sp : ∀ p ∈ pre, p.1 < maxT) (sq : ∀ p ∈ post, p.1 < maxT) (hpost : ∀ b x, (b, x) ∈ post -> h1.get b = some x) (hle : h1.nx <= nx2)
   (ha : After ρ σ hp w v h1 c w') : After ρ σ h w v ⟨(putL (dropL h pre) post).t, nx2⟩ c w' := by
 obtain ⟨σ', hv, hH', hG⟩ := ha
 have hget : ∀ b x, (⟨(putL (dropL h pre) post).t, nx2⟩ : H).get b = some x -> (b, x) ∈ post ∨ (h.get b = some x /\ ∀ p ∈ pre, p.1 ≠ b) := fun b x hb => by
   rcases putL_get sq (h := dropL h pre) (b := b) (x := x) hb with h2 | h2
   · exact .inl h2
   · exact .inr (dropL_get sp h2)
 have out : ∀ b x p, h.get b = some x -> (∀ q ∈ pre, q.1 ≠ b) -> σ b = some p -> ¬ Owns σ hp p.blk := fun b x p hb hq hs ⟨b2, x2, p2, g1, g2, g3⟩ => by
   have m2 := hpre b2 x2 g1
   have hne : b ≠ b2 := fun e => hq _ m2 (by simp [e])
   exact hH.inj b b2 x x2 p p2 hb (hin b2 x2 m2) hs g2 hne g3.symm
 have lt : ∀ b x p, h.get b = some x -> σ b = some p -> p.blk < w.heap.size /\ ORel ρ σ p w.heap[p.blk]? x := fun b x p hb hs => by
   obtain ⟨q, hq, hO⟩ := hH.blk b x hb
   obtain rfl : p = q := Option.some.inj (hs.symm.trans hq)
   obtain ⟨y, hy⟩ := hO.some
   exact ⟨(Array.getElem?_eq_some_iff.1 hy).1, hO⟩
 have sub : ∀ r, Owns σ hp r -> Owns σ h r := fun r ⟨b, x, p, g1, g2, g3⟩ => ⟨b, x, p, hin b x (hpre b x g1), g2, g3⟩
 have old : ∀ b x, h.get b = some x -> ∃ p, σ b = some p /\ σ' b = some p := fun b x hb => by
   obtain ⟨p, hp', _⟩ := hH.blk b x hb
   exact ⟨p, hp', hG.ext b p hp'⟩
 refine ⟨σ', hv, ⟨fun b x hb => ?_, fun b b' x x' p p' hb hb' hs hs' hne => ?_, fun b hb => hH'.fresh b (Nat.le_trans hle hb)⟩, ⟨hG.ext, fun b h2 h3 => by rw [← hnx]; exact hG.new b h2 h3, by rw [← hnx]; exact Nat.le_trans hG.nx hle, hG.size, fun r hr hn => hG.kept r hr fun ho => hn (sub r ho), fun r ho => ?_, hG.os, hG.output, hG.tape⟩⟩
 · rcases hget b x hb with h2 | ⟨h2, h3⟩
   · exact hH'.blk b x (hpost b x h2)
   · obtain ⟨p, hs, hs'⟩ := old b x h2
     obtain ⟨hlt, hO⟩ := lt b x p h2 hs
     refine ⟨p, hs', ?_⟩
     rw [hG.kept p.blk hlt (out b x p h2 h3 hs)]
     exact hO.ext hG.ext
 ·
   have mixed : ∀ b b' x x' p p', (b, x) ∈ post -> h.get b' = some x' -> (∀ q ∈ pre, q.1 ≠ b') -> σ' b = some p -> σ' b' = some p' -> p.blk ≠ p'.blk := fun b b' x x' p p' h2 h3 h4 hs hs' e => by
     obtain ⟨q, hq, hq'⟩ := old b' x' h3
     obtain rfl : p' = q := Option.some.inj (hs'.symm.trans hq')
     obtain ⟨hlt, _⟩ := lt b' x' p' h3 hq
     rcases hG.own p.blk ⟨b, x, p, hpost b x h2, hs, rfl⟩ with h5 | h5
     · rw [e] at h5; omega
     · rw [e] at h5; exact out b' x' p' h3 h4 hq h5
   rcases hget b x hb with h2 | ⟨h2, h3⟩ <;> rcases hget b' x' hb' with h4 | ⟨h4, h5⟩
   · exact hH'.inj b b' x x' p p' (hpost b x h2) (hpost b' x' h4) hs hs' hne
   · exact mixed b b' x x' p p' h2 h4 h5 hs hs'
   · exact Ne.symm (mixed b' b x' x p' p h4 h2 h3 hs' hs)
   · obtain ⟨q, hq, hq'⟩ := old b x h2
     obtain ⟨q2, hq2, hq2'⟩ := old b' x' h4
     obtain rfl : p = q := Option.some.inj (hs.symm.trans hq')
     obtain rfl : p' = q2 := Option.some.inj (hs'.symm.trans hq2')
     exact hH.inj b b' x x' p p' h2 h4 hq hq2 hne
 · obtain ⟨b, x, p, g1, g2, rfl⟩ := ho
   rcases hget b x g1 with h2 | ⟨h2, h3⟩
   · rcases hG.own p.blk ⟨b, x, p, hpost b x h2, g2, rfl⟩ with h5 | h5
     · exact .inl h5
     · exact .inr (sub _ h5)
   · obtain ⟨q, hq, hq'⟩ := old b x h2
     obtain rfl : p = q := Option.some.inj (g2.symm.trans hq')
     exact .inr ⟨b, x, p, h2, hq, rfl⟩
theorem memo_ok {P : Program} {ρ : Rho} {f : FuncId} {call : List AV -> H -> Option (AV × H)} (hc : FnOk P ρ f call) {m : Memo} (hm : memoChk m (call m.args m.heap) = true) : FnOk P ρ f (memoF m) := by
 intro σ args h v h' cs w hg hargs hH hv
 unfold memoF at hv
 cases hb : (AV.beqL args m.args && Nat.beq h.nx m.nx && hasAll h m.pre) with
 | false => rw [hb] at hv; simp at hv
 | true =>
   rw [hb] at hv
   simp only [cond_true, Option.some.injEq, Prod.mk.injEq] at hv
   obtain ⟨rfl, rfl⟩ := hv
   simp only [Bool.and_eq_true] at hb
   obtain ⟨⟨h1, h2⟩, h3⟩ := hb
   have h1 := AV.beqL_eq h1
   subst h1
   have h2 := Nat.eq_of_beq_eq_true h2
   unfold memoChk at hm
   cases hr : call m.args m.heap with
   | none => rw [hr] at hm; simp at hm
   | some r =>
     obtain ⟨v1, hh1⟩ := r
     rw [hr] at hm
     simp only [Bool.and_eq_true] at hm
     obtain ⟨⟨⟨⟨k1, k2⟩, k3⟩, k4⟩, k5⟩ := hm
     have k1 := AV.beq_eq k1
     subst k1
     have sp := fun p hp => small_mem k4 (p := p) hp
     have sq := fun p hp => small_mem k5 (p := p) hp
     have hpre : ∀ b x, m.heap.get b = some x -> (b, x) ∈ m.pre := fun b x hb => by
       rcases putL_get sp hb with e | e
       · exact e
       · simp [H.get, T.get] at e
     have hin : ∀ b x, (b, x) ∈ m.pre -> h.get b = some x := fun b x hb => hasAll_mem h3 hb
     have hnx : m.heap.nx = h.nx := by unfold Memo.heap; rw [putL_nx]; exact h2.symm
     have hHp : HRel ρ σ m.heap w := ⟨fun b x hb => hH.blk b x (hin b x (hpre b x hb)), fun b b' x x' p p' hb hb' => hH.inj b b' x x' p p' (hin b x (hpre b x hb)) (hin b' x' (hpre b' x' hb')), fun b hb => hH.fresh b (by rw [← hnx]; exact hb)⟩
     have lift : ∀ c w', After ρ σ m.heap w m.v hh1 c w' -> After ρ σ h w m.v ⟨(putL (dropL h m.pre) m.post).t, m.nx2⟩ c w' := fun c w' ha =>
       After.frame hH hpre hin hnx sp sq (fun b x hb => hasAll_mem k3 hb) (Nat.le_of_ble_eq_true k2) ha
     rcases hc σ m.args m.heap m.v hh1 cs w hg hargs hHp hr with ⟨c, w', e1, e2⟩ | ⟨e1, e2⟩
     · exact .inl ⟨c, w', e1, lift c w' e2⟩
     · exact .inr ⟨e1, e2.mono lift⟩
def memosF : List Memo -> List AV -> H -> Option (AV × H)
 | [], _, _ => none
 | m :: l, args, h => match memoF m args h with
   | some r => some r
   | none => memosF l args h
theorem memos_ok {P : Program} {ρ : Rho} {f : FuncId} : ∀ {l : List Memo}, (∀ m ∈ l, FnOk P ρ f (memoF m)) -> FnOk P ρ f (memosF l)
 | [], _ => by intro σ args h v h' cs w _ _ _ hv; cases hv
 | m :: l, hl => by
   intro σ args h v h' cs w hg hargs hH hv
   simp only [memosF] at hv
   cases hr : memoF m args h with
   | some r => rw [hr] at hv; cases hv; exact hl m (List.mem_cons_self ..) σ args h _ _ cs w hg hargs hH hr
   | none => rw [hr] at hv; exact memos_ok (fun q hq => hl q (List.mem_cons_of_mem _ hq)) σ args h v h' cs w hg hargs hH hv
end Go.Ev
namespace Go.Ev
open Go.RowKit
section
variable {P : Program} {ρ : Rho}
theorem HRel.lt' {σ : Sig} {h : H} {w : World} (r : HRel ρ σ h w) {b : Nat} {x : ABlk} {p : Place} (hb : h.get b = some x) (hp : σ b = some p) : p.blk < w.heap.size := by
 obtain ⟨q, hq, hO⟩ := r.blk b x hb
 obtain rfl : p = q := Option.some.inj (hp.symm.trans hq)
 obtain ⟨y, hy⟩ := hO.some
 exact (Array.getElem?_eq_some_iff.1 hy).1
theorem HRel.below {σ : Sig} {h : H} {w w' : World} (r : HRel ρ σ h w) (hb : Below w.heap.size w w') : HRel ρ σ h w' :=
 ⟨fun b x hx => by
   obtain ⟨p, hp, hO⟩ := r.blk b x hx
   exact ⟨p, hp, by rw [hb.block p.blk (r.lt' hx hp)]; exact hO⟩, r.inj, r.fresh⟩
theorem Goes.below {σ : Sig} {h : H} {w w' : World} (hb : Below w.heap.size w w') : Goes σ h w σ h w' :=
 ⟨.refl _, fun _ a b => (b a).elim, Nat.le_refl _, hb.size, fun r hr _ => hb.block r hr, fun _ ho => .inr ho, hb.os, hb.output, hb.tape⟩
theorem Ret.of {f : FuncId} {cs : Array Value} {w : World} {R : Value -> World -> Prop} (h : Calls P f cs w fun e w' => ∃ v, e = .returned v /\ R v w') : Ret P (Frame.enter P f cs .normal) w R := Ret.of_calls h
theorem enters {f : FuncId} {fn : Func} {cs : Array Value} {w : World} (hf : P.funcs[f]? = some fn) (hn : fn.name ≠ "runtime.NumGoroutine") (hb : fn.body.isSome = true) : (callFunc f cs).run P w = .ok (.enter f cs) w := by
 obtain ⟨body, hb⟩ := Option.isSome_iff_exists.1 hb
 simp [callFunc, hf, hn, hb]
end
end Go.Ev
namespace Go.Ev
open Go.RowKit
section
variable {P : Program}
def ABlk.isRo : ABlk -> Bool
 | .ro _ _ => true
 | _ => false
def allRo (l : Blks) : Bool := l.all fun p => p.2.isRo
theorem putE_get {l : Blks} {nx : Nat} (hs : small l = true) {b : Nat} {x : ABlk} (h : (putL ⟨.e, nx⟩ l).get b = some x) : (b, x) ∈ l := by
 rcases putL_get (fun p hp => small_mem hs hp) h with h | h
 · exact h
 · simp [H.get, T.get] at h
theorem ro_below {ρ : Rho} {σ σ' : Sig} {l : Blks} {nx : Nat} {h' : H} {w w' : World} (hs : small l = true) (hr : allRo l = true) (ha : hasAll h' l = true)
   (hH : HRel ρ σ (putL ⟨.e, nx⟩ l) w) (hH' : HRel ρ σ' h' w') (hG : Goes σ (putL ⟨.e, nx⟩ l) w σ' h' w') : Below w.heap.size w w' := by
 refine ⟨hG.os, hG.tape, hG.output, hG.size, fun k hk => ?_⟩
 by_cases ho : Owns σ (putL ⟨.e, nx⟩ l) k
 · obtain ⟨b, x, p, g1, g2, rfl⟩ := ho
   have hm := putE_get hs g1
   have hx : x.isRo = true := List.all_eq_true.1 hr _ hm
   cases x with
   | ro e vs =>
     obtain ⟨q, hq, cs, _, h2, _⟩ := hH.blk b _ g1
     obtain rfl : p = q := Option.some.inj (g2.symm.trans hq)
     obtain ⟨q', hq', cs', _, h2', _⟩ := hH'.blk b _ (hasAll_mem ha hm)
     obtain rfl : p = q' := Option.some.inj ((hG.ext b p g2).symm.trans hq')
     rw [h2, h2']
   | cells => cases hx
   | map => cases hx
   | mapIter => cases hx
   | loop => cases hx
   | deferred => cases hx
 · exact hG.kept k hk ho
structure Left (ρ : Rho) (σ : Sig) (w : World) (v : AV) (h' : H) (c : Value) (σ' : Sig) (w' : World) : Prop where
 v : conc ρ σ' v = some c
 h : HRel ρ σ' h' w'
 ext : Ext σ σ'
 b : Below w.heap.size w w'
theorem ro_calls (hm : P.follows .mixedOrders = true) {ρ : Rho} (hρ : ρ.loops = loopsOf P) {ext : Ext1} {tab : Nat -> Option Func} (ht : TabOk P tab) (hx : ∀ f F, ext f = some F -> FnOk P ρ f F) {f : FuncId} (hf : ext f = none) {n : Nat} {σ : Sig} {args : List AV} {l : Blks} {nx : Nat} {v : AV} {h' : H} {cs : List Value} {w : World} (hg : GOk P σ) (hargs : concL ρ σ args = some cs) (hs : small l = true) (hr : allRo l = true)
   (hH : HRel ρ σ (putL ⟨.e, nx⟩ l) w) (hv : (envK P ext tab n).call f args (putL ⟨.e, nx⟩ l) = some (v, h')) (ha : hasAll h' l = true) :
   Calls P f cs.toArray w fun e w' => ∃ c σ', e = .returned c /\ Left ρ σ w v h' c σ' w' :=
 (envK_calls hm hρ ht hx hf hg hargs hH hv).mono fun e w' ⟨c, he, σ', hc, hH', hG⟩ => ⟨c, σ', he, hc, hH', hG.ext, ro_below hs hr ha hH hH' hG⟩
mutual
theorem conc_val {ρ ρ' : Rho} (h : ρ.val = ρ'.val) (σ : Sig) : ∀ v : AV, conc ρ σ v = conc ρ' σ v
 | .int .. => by simp [conc]
 | .bool _ => by simp [conc]
 | .str _ => by simp [conc]
 | .ptr .. => by simp [conc]
 | .nilptr => by simp [conc]
 | .slice .. => by simp [conc]
 | .nilslice => by simp [conc]
 | .map _ => by simp [conc]
 | .nilmap => by simp [conc]
 | .fn f a c => by simp [conc, concL_val h σ a, concL_val h σ c]
 | .yld _ => by simp [conc]
 | .nilfn => by simp [conc]
 | .iface t v => by simp [conc, conc_val h σ v]
 | .niliface => by simp [conc]
 | .agg l => by simp [conc, concL_val h σ l]
 | .tup l => by simp [conc, concL_val h σ l]
 | .sym i => by simp [conc, h]
 | .etail .. => by simp [conc]
theorem concL_val {ρ ρ' : Rho} (h : ρ.val = ρ'.val) (σ : Sig) : ∀ l : List AV, concL ρ σ l = concL ρ' σ l
 | [] => by simp [concL]
 | v :: l => by simp [concL, conc_val h σ v, concL_val h σ l]
end
def roFrom (h : H) (l2 : Blks) : Bool := l2.all fun p => match p.2 with
 | .ro e vs => (match h.get p.1 with | some (.cells e' vs' _ _) => Nat.beq e e' && AV.beqL vs vs' | _ => false)
 | _ => false
theorem roFrom_mem {h : H} {l2 : Blks} (hr : roFrom h l2 = true) {b : Nat} {x : ABlk} (hm : (b, x) ∈ l2) : ∃ e vs t wr, x = .ro e vs /\ h.get b = some (.cells e vs t wr) := by
 have := List.all_eq_true.1 hr _ hm
 cases x with
 | ro e vs =>
   simp only at this
   split at this
   · rename_i e' vs' t wr hg
     simp only [Bool.and_eq_true] at this
     refine ⟨e, vs, t, wr, rfl, ?_⟩
     rw [hg, Nat.eq_of_beq_eq_true this.1, AV.beqL_eq this.2]
   · cases this
 | cells => cases this
 | map => cases this
 | mapIter => cases this
 | loop => cases this
 | deferred => cases this
def contOf (w : World) (b : Nat) : Array Value := match w.heap[b]? with | some (.cells arr _ _) => arr | _ => #[]
def fzOf (w : World) (b : Nat) : Nat × Nat := match w.heap[b]? with | some (.cells _ _ fz) => fz | _ => (0, 0)
def Rho.at (ρ : Rho) (w : World) : Rho := { ρ with tl := contOf w, fz := fzOf w }
theorem ro_at {ρ : Rho} {σ : Sig} {p : Place} {w : World} {e : TypeId} {vs : List AV} {t wr : Bool} (h : ORel ρ σ p w.heap[p.blk]? (.cells e vs t wr)) : ORel (ρ.at w) σ p w.heap[p.blk]? (.ro e vs) := by
 obtain ⟨arr, fz, h1, _, _, _, ⟨cs, h2, h3⟩, _⟩ := h
 have e1 : contOf w p.blk = arr := by simp [contOf, h1]
 have e2 : fzOf w p.blk = fz := by simp [fzOf, h1]
 refine ⟨cs, ?_, ?_, ?_⟩
 · rw [← h2]; exact concL_val (ρ := ρ.at w) (ρ' := ρ) rfl σ vs
 · show w.heap[p.blk]? = some (Obj.cells (contOf w p.blk) e (fzOf w p.blk))
   rw [e1, e2]; exact h1
 · show ∀ i, i < vs.length -> (contOf w p.blk)[p.del + i]? = cs[i]?
   rw [e1]; exact h3
theorem HRel.ro {ρ : Rho} {σ : Sig} {h : H} {w : World} (hH : HRel ρ σ h w) {l2 : Blks} (hs : small l2 = true) (hr : roFrom h l2 = true) : HRel (ρ.at w) σ (putL ⟨.e, h.nx⟩ l2) w := by
 refine ⟨fun b x hb => ?_, fun b b' x x' p p' hb hb' hp hp' hne => ?_, fun b hb => hH.fresh b (by rw [putL_nx] at hb; exact hb)⟩
 · obtain ⟨e, vs, t, wr, rfl, hg⟩ := roFrom_mem hr (putE_get hs hb)
   obtain ⟨p, hp, hO⟩ := hH.blk b _ hg
   exact ⟨p, hp, ro_at hO⟩
 · obtain ⟨e, vs, t, wr, rfl, hg⟩ := roFrom_mem hr (putE_get hs hb)
   obtain ⟨e', vs', t', wr', rfl, hg'⟩ := roFrom_mem hr (putE_get hs hb')
   exact hH.inj b b' _ _ p p' hg hg' hp hp' hne
end
end Go.Ev
