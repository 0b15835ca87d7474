/- ItemPartials, one part of the proof: PropV, PropA, PropP, PropQ, PropExt. -/
import Derived.Test.YtljoobbnhbaklaaGreatDoorProg
import Derived.WalkKit
import Derived.WalkSpells
import Derived.WalkLawsBesides
import Derived.Deep.QuietTactic
import Derived.BigQuiet
import Derived.Lib.Hide
import Derived.Lib.SmallJoins
import Derived.Lib.IndexBytes
import Derived.Lib.SlBytesRow
import Derived.Deep.RegionHeld3
import Derived.Deep.RegionLaw
import Derived.StillTailTactics
import Derived.Test.YtljoobbnhbaklaaGreatDoorP08
import Derived.Defers
import Derived.Recover
import Derived.Laws.Pointers
set_option linter.all false
set_option maxRecDepth 100000
set_option maxHeartbeats 16000000
namespace Go.EvProp
end Go.EvProp
namespace Go.EvProp
open Go Go.Proofs Go.RowKit
theorem cellOf {w : World} {b i : Nat} {cs : Array Value} {t : TypeId} {v : Value} (h : w.heap[b]? = some (.cells cs t (0, 0))) (hi : cs[i]? = some v) : w.cell? ⟨b, i, none⟩ = some v := by simp [World.cell?, h, hi]
theorem heapNew (w : World) (o : Obj) : (w.alloc o).heap[w.heap.size]? = some o := heap_alloc_new w o
theorem heapOld (w : World) (o : Obj) {k : Nat} (h : k < w.heap.size) : (w.alloc o).heap[k]? = w.heap[k]? := Below.heap_alloc w o k h
theorem sizeNew (w : World) (o : Obj) : (w.alloc o).heap.size = w.heap.size + 1 := by simp
end Go.EvProp
namespace Go.EvProp
open Go Go.Ev Go.Proofs Go.RowKit
def sigR (g : Nat) : Sig := fun b => if b < 13 then some ⟨b, 0, 0⟩ else if b = 13 then some ⟨g, 0, 3⟩ else none
def heapR (vs : List AV) : H := (⟨.e, 14⟩ : H).upd 13 (some (.cells 205 vs true true))
theorem gsize : Tryz.prog.globals.size = 13 := by kernel_rfl
theorem gokR (g : Nat) : GOk Tryz.prog (sigR g) := fun k hk => ⟨0, by rw [gsize] at hk; simp [sigR, hk]⟩
theorem heapR_get {vs : List AV} {b : Nat} {x : ABlk} (h : (heapR vs).get b = some x) : b = 13 /\ x = .cells 205 vs true true := by
 unfold heapR at h
 rw [H.get_upd _ _ _ _ (by decide)] at h
 by_cases e : b = 13
 · rw [if_pos e] at h; cases h; exact ⟨e, rfl⟩
 · rw [if_neg e] at h; simp [H.get, T.get] at h
theorem hrelR {ρ : Rho} {g : Nat} {w : World} {vs : List AV} {a b c : Value} (hw : w.heap[g]? = some (.cells #[a, b, c] 205 (0, 0))) (hl : vs.length = 3) (hc : concL ρ (sigR g) vs = some [a, b, c]) : HRel ρ (sigR g) (heapR vs) w := by
 refine ⟨fun b' x hb => ?_, fun b b' x x' p p' hb hb' _ _ hne => ?_, fun b hb => ?_⟩
 · obtain ⟨rfl, rfl⟩ := heapR_get hb
   refine ⟨⟨g, 0, 3⟩, rfl, _, _, hw, rfl, by rw [hl]; exact Nat.le_refl 3, fun _ => ⟨hl, rfl⟩, ⟨_, hc, fun i hi => by simp⟩, fun _ i _ hi => by simp⟩
 · exact absurd ((heapR_get hb).1.trans (heapR_get hb').1.symm) hne
 · have hb : 14 <= b := hb
   unfold sigR
   rw [if_neg (by omega), if_neg (by omega)]
def startR (s : List Nat) : List AV := [.str s, .int .i64 (.ofNat 0), .nilslice]
def readAt (s : List Nat) (k : Nat) (r : Option (AV × H)) : Bool := match r with
 | some (.tup [], h') => (match h'.get 13 with | some (.cells t [.str s', .int .i64 (.ofNat n), .slice m 0 1 4 none] true true) => Nat.beq t 205 && s == s' && Nat.beq n k && !(Nat.beq m 13) && (match h'.get m with | some (.cells t' vs _ true) => Nat.beq t' 260 && AV.beqL vs [.int .i64 (.ofNat 3), .int .i64 (.ofNat 1), .int .i64 (.ofNat 200), .str []] | _ => Nat.beq k 1) | _ => false)
 | _ => false
def readX (s : List Nat) (k : Nat) (r : Option (AV × H)) : Bool := match r with
 | some (.tup [], h') => (match h'.get 13 with | some (.cells t [.str s', .int .i64 (.ofNat n), .slice m _ _ _ _] true true) => Nat.beq t 205 && s == s' && Nat.beq n k && !(Nat.beq m 13) | _ => false)
 | _ => false
theorem next_run_l : readAt [92, 108, 43] 3 ((envK Tryz.prog ext0 tabT.find 100).call 133 [.ptr 13 0] (heapR (startR [92, 108, 43]))) = true := by kernel_rfl
theorem next_run_x : readX [120, 43] 1 ((envK Tryz.prog ext0 tabT.find 100).call 133 [.ptr 13 0] (heapR (startR [120, 43]))) = true := by kernel_rfl
theorem rhoR : ∃ ρ : Rho, ρ.loops = loopsOf Tryz.prog := ⟨⟨fun _ => undef, loopsOf Tryz.prog, fun _ => (0, 0), fun _ => #[]⟩, rfl⟩
structure Stays (g : Nat) (w w' : World) : Prop where
 os : w'.os = w.os
 tape : w'.tape = w.tape
 output : w'.output = w.output
 size : w.heap.size <= w'.heap.size
 block : ∀ k, k < w.heap.size -> k ≠ g -> w'.heap[k]? = w.heap[k]?
theorem goesR {g : Nat} {vs : List AV} {w w' : World} {σ' : Sig} {h' : H} (hG : Goes (sigR g) (heapR vs) w σ' h' w') : Stays g w w' :=
 ⟨hG.os, hG.tape, hG.output, hG.size, fun k hk hne => hG.kept k hk fun ⟨b, x, p, g1, g2, g3⟩ => hne (by
   obtain ⟨rfl, _⟩ := heapR_get g1
   have : sigR g 13 = some ⟨g, 0, 3⟩ := rfl
   rw [this] at g2
   cases g2
   exact g3.symm)⟩
theorem strOf (s : List Nat) (h : s.all (fun n => n < 256) = true) (ρ : Rho) (σ : Sig) : conc ρ σ (.str s) = some (.string (bytesOf s)) := by simp only [conc]; rw [if_pos h]
theorem next_x1 (g : Nat) (w : World) (hw : w.heap[g]? = some (.cells #[.string (bytesOf [120, 43]), .int .i64 0, .slice none 0 0] 205 (0, 0))) :
   Calls Tryz.prog 133 #[.pointer (some ⟨g, 0, none⟩)] w fun e w' => e = .returned (.tuple #[]) /\ Stays g w w' /\ ∃ v fz, one v = true /\ w'.heap[g]? = some (.cells #[.string (bytesOf [120, 43]), .int .i64 1, v] 205 fz) := by
 obtain ⟨ρ, hρ⟩ := rhoR
 have hrun := next_run_x
 unfold readX at hrun
 split at hrun
 · rename_i h' hr
   have hH : HRel ρ (sigR g) (heapR (startR [120, 43])) w := hrelR hw rfl (by simp only [startR, concL]; rw [strOf [120, 43] (by decide)]; rfl)
   refine (envK_calls (ρ := ρ) follows hρ (BT.find_ok tabT_ok) ext0_ok (f := 133) (by kernel_rfl) (gokR g) (args := [.ptr 13 0]) (cs := [.pointer (some ⟨g, 0, none⟩)]) (by simp [concL, conc, sigR]) hH hr).mono ?_
   rintro e w' ⟨c, rfl, σ', hc, hH', hG⟩
   simp only [conc, concL, Option.map_some, Option.some.injEq] at hc
   subst hc
   refine ⟨rfl, goesR hG, ?_⟩
   split at hrun
   · rename_i t s' n m _ _ _ _ hg
     simp only [Bool.and_eq_true] at hrun
     obtain ⟨⟨⟨h1, h2⟩, h3⟩, h4⟩ := hrun
     have h1 := Nat.eq_of_beq_eq_true h1
     have h3 := Nat.eq_of_beq_eq_true h3
     have h2 := eq_of_beq h2
     subst h1 h2 h3
     obtain ⟨p, hp, arr, fz, q1, q2, q3, q4, ⟨cs, q5, q6⟩, q7⟩ := hH'.blk 13 _ hg
     have : σ' 13 = some ⟨g, 0, 3⟩ := hG.ext 13 _ rfl
     obtain rfl : p = ⟨g, 0, 3⟩ := Option.some.inj (hp.symm.trans this)
     obtain ⟨c0, l0, k0, k0', rfl⟩ := concL_cons q5
     obtain ⟨c1, l1, k1, k1', rfl⟩ := concL_cons k0'
     obtain ⟨c2, k2, rfl⟩ := concL_one k1'
     rw [strOf _ (by decide)] at k0
     simp only [conc, Option.some.injEq] at k0 k1
     subst k0 k1
     have hone : one c2 = true := by
       simp only [conc, Option.map_eq_some_iff] at k2
       obtain ⟨_, _, rfl⟩ := k2
       rfl
     refine ⟨c2, fz, hone, ?_⟩
     rw [q1]
     congr 2
     apply Array.ext'
     apply List.ext_getElem?
     intro i
     have q2' : arr.size = 3 := q2
     by_cases hi : i < 3
     · have := q6 i hi
       simp only [Nat.zero_add] at this
       rw [Array.getElem?_toList, this]
       rfl
     · rw [List.getElem?_eq_none (by simp; omega), List.getElem?_eq_none (by simp; omega)]
   · cases hrun
 · cases hrun
theorem threeCells {arr : Array Value} {c0 c1 c2 : Value} (h : arr.size = 3) (q : ∀ i, i < 3 -> arr[i]? = [c0, c1, c2][i]?) : arr = #[c0, c1, c2] := by
 apply Array.ext'
 apply List.ext_getElem?
 intro i
 by_cases hi : i < 3
 · have := q i hi
   rw [Array.getElem?_toList, this]
 · rw [List.getElem?_eq_none (by simp; omega), List.getElem?_eq_none (by simp; omega)]
structure PieceAt (w : World) (b del tot : Nat) : Prop where
 ex : ∃ arr fz, w.heap[b]? = some (.cells arr 260 fz) /\ arr.size = del + tot /\ (∀ i, i < 4 -> arr[del + i]? = [Value.int .i64 3, .int .i64 1, .int .i64 200, .string ⟨#[]⟩][i]?) /\ (∀ i, del <= i -> i < arr.size -> ¬ (fz.1 <= i /\ i < fz.2))
 tot : 4 <= tot
theorem next_l (g : Nat) (w : World) (hg0 : g < w.heap.size) (hw : w.heap[g]? = some (.cells #[.string (bytesOf [92, 108, 43]), .int .i64 0, .slice none 0 0] 205 (0, 0))) :
   Calls Tryz.prog 133 #[.pointer (some ⟨g, 0, none⟩)] w fun e w' => e = .returned (.tuple #[]) /\ Stays g w w' /\ ∃ b del tot fz, w'.heap[g]? = some (.cells #[.string (bytesOf [92, 108, 43]), .int .i64 3, .slice (some ⟨b, del, none⟩) 1 (tot / 4)] 205 fz) /\ w.heap.size <= b /\ PieceAt w' b del tot := by
 obtain ⟨ρ, hρ⟩ := rhoR
 have hrun := next_run_l
 unfold readAt at hrun
 split at hrun
 · rename_i h' hr
   have hH : HRel ρ (sigR g) (heapR (startR [92, 108, 43])) w := hrelR hw rfl (by simp only [startR, concL]; rw [strOf [92, 108, 43] (by decide)]; rfl)
   refine (envK_calls (ρ := ρ) follows hρ (BT.find_ok tabT_ok) ext0_ok (f := 133) (by kernel_rfl) (gokR g) (args := [.ptr 13 0]) (cs := [.pointer (some ⟨g, 0, none⟩)]) (by simp [concL, conc, sigR]) hH hr).mono ?_
   rintro e w' ⟨c, rfl, σ', hc, hH', hG⟩
   simp only [conc, concL, Option.map_some, Option.some.injEq] at hc
   subst hc
   refine ⟨rfl, goesR hG, ?_⟩
   split at hrun
   · rename_i t s' n m hg
     simp only [Bool.and_eq_true] at hrun
     obtain ⟨⟨⟨⟨h1, h2⟩, h3⟩, h4⟩, h5⟩ := hrun
     have h1 := Nat.eq_of_beq_eq_true h1
     have h3 := Nat.eq_of_beq_eq_true h3
     have h2 := eq_of_beq h2
     have h4 : m ≠ 13 := fun e => by subst e; simp at h4
     subst h1 h2 h3
     obtain ⟨p, hp, arr, fz, q1, q2, q3, q4, ⟨cs, q5, q6⟩, q7⟩ := hH'.blk 13 _ hg
     have hs13 : σ' 13 = some ⟨g, 0, 3⟩ := hG.ext 13 _ rfl
     obtain rfl : p = ⟨g, 0, 3⟩ := Option.some.inj (hp.symm.trans hs13)
     obtain ⟨c0, l0, k0, k0', rfl⟩ := concL_cons q5
     obtain ⟨c1, l1, k1, k1', rfl⟩ := concL_cons k0'
     obtain ⟨c2, k2, rfl⟩ := concL_one k1'
     rw [strOf _ (by decide)] at k0
     simp only [conc, Option.some.injEq, Option.map_eq_some_iff] at k0 k1 k2
     obtain ⟨pm, hpm, k2⟩ := k2
     subst k0 k1 k2
     split at h5
     · rename_i t' vs ti hgm
       simp only [Bool.and_eq_true] at h5
       obtain ⟨e1, e2⟩ := h5
       have e1 := Nat.eq_of_beq_eq_true e1
       have e2 := AV.beqL_eq e2
       subst e1 e2
       obtain ⟨p2, hp2, arr2, fz2, r1, r2, r3, r4, ⟨cs2, r5, r6⟩, r7⟩ := hH'.blk m _ hgm
       obtain rfl : p2 = pm := Option.some.inj (hp2.symm.trans hpm)
       have hcs2 : cs2 = [Value.int .i64 3, .int .i64 1, .int .i64 200, .string ⟨#[]⟩] := by
         have : concL ρ σ' [.int .i64 (.ofNat 3), .int .i64 (.ofNat 1), .int .i64 (.ofNat 200), .str []] = some [Value.int .i64 3, .int .i64 1, .int .i64 200, .string ⟨#[]⟩] := rfl
         exact Option.some.inj (r5.symm.trans this)
       subst hcs2
       have hne : p2.blk ≠ g := hH'.inj m 13 _ _ p2 ⟨g, 0, 3⟩ hgm hg hp2 hs13 h4
       refine ⟨p2.blk, p2.del, p2.tot, fz, ?_, ?_, ⟨arr2, fz2, r1, r2, fun i hi => r6 i hi, r7 rfl⟩, r3⟩
       · rw [q1]
         congr 2
         exact threeCells q2 fun i hi => by have := q6 i hi; simp only [Nat.zero_add] at this; exact this
       · rcases hG.own p2.blk ⟨m, _, p2, hgm, hp2, rfl⟩ with h | ⟨b, x, p, g1, g2, g3⟩
         · exact h
         · obtain ⟨rfl, _⟩ := heapR_get g1
           have : sigR g 13 = some ⟨g, 0, 3⟩ := rfl
           rw [this] at g2
           cases g2
           exact absurd g3.symm hne
     · cases h5
   · cases hrun
 · cases hrun
def heapQ : H := (⟨.e, 14⟩ : H).upd 13 (some (.cells 205 [.str [120, 43], .int .i64 (.ofNat 1), .sym 0] true false))
theorem heapQ_get {b : Nat} {x : ABlk} (h : heapQ.get b = some x) : b = 13 /\ x = .cells 205 [.str [120, 43], .int .i64 (.ofNat 1), .sym 0] true false := by
 unfold heapQ at h
 rw [H.get_upd _ _ _ _ (by decide)] at h
 by_cases e : b = 13
 · rw [if_pos e] at h; cases h; exact ⟨e, rfl⟩
 · rw [if_neg e] at h; simp [H.get, T.get] at h
theorem hrelQ {ρ : Rho} {g : Nat} {w : World} {v : Value} {fz : Nat × Nat} (hv : ρ.val 0 = v) (h1 : one v = true) (hw : w.heap[g]? = some (.cells #[.string (bytesOf [120, 43]), .int .i64 1, v] 205 fz)) : HRel ρ (sigR g) heapQ w := by
 refine ⟨fun b' x hb => ?_, fun b b' x x' p p' hb hb' _ _ hne => ?_, fun b hb => ?_⟩
 · obtain ⟨rfl, rfl⟩ := heapQ_get hb
   refine ⟨⟨g, 0, 3⟩, rfl, _, _, hw, rfl, Nat.le_refl 3, fun _ => ⟨rfl, rfl⟩, ⟨[.string (bytesOf [120, 43]), .int .i64 1, v], ?_, fun i hi => by simp⟩, fun h => by cases h⟩
   simp only [concL]
   rw [strOf [120, 43] (by decide)]
   simp only [conc, hv, h1, if_true]
   rfl
 · exact absurd ((heapQ_get hb).1.trans (heapQ_get hb').1.symm) hne
 · have hb : 14 <= b := hb
   unfold sigR
   rw [if_neg (by omega), if_neg (by omega)]
def isU8 (n : Nat) (r : Option (AV × H)) : Bool := match r with | some (.int .u8 (.ofNat m), h) => Nat.beq m n && hasAll h [(13, .cells 205 [.str [120, 43], .int .i64 (.ofNat 1), .sym 0] true false)] | _ => false
theorem peek_run : isU8 43 ((envK Tryz.prog ext0 tabT.find 100).call 196 [.ptr 13 0] heapQ) = true := by kernel_rfl
def isTr (r : Option (AV × H)) : Bool := match r with | some (.bool true, _) => true | _ => false
theorem special_run : isTr ((envK Tryz.prog ext0 tabT.find 100).call 197 [.int .u8 (.ofNat 43)] ⟨.e, 13⟩) = true := by kernel_rfl
def sigE : Sig := fun b => if b < 13 then some ⟨b, 0, 0⟩ else none
theorem gokE : GOk Tryz.prog sigE := fun k hk => ⟨0, by rw [gsize] at hk; simp [sigE, hk]⟩
theorem hrelE (ρ : Rho) (w : World) : HRel ρ sigE ⟨.e, 13⟩ w := by
 refine ⟨fun b x hb => by simp [H.get, T.get] at hb, fun b b' x x' p p' hb => by simp [H.get, T.get] at hb, fun b hb => ?_⟩
 have hb : 13 <= b := hb
 unfold sigE
 rw [if_neg (by omega)]
theorem goesE {w w' : World} {σ' : Sig} {h' : H} (hG : Goes sigE ⟨.e, 13⟩ w σ' h' w') : Below w.heap.size w w' :=
 ⟨hG.os, hG.tape, hG.output, hG.size, fun k hk => hG.kept k hk fun ⟨b, x, p, g1, _⟩ => by simp [H.get, T.get] at g1⟩
theorem special_plus (w : World) : Calls Tryz.prog 197 #[.int .u8 43] w fun e w' => e = .returned (.bool true) /\ Below w.heap.size w w' := by
 obtain ⟨ρ, hρ⟩ := rhoR
 have hrun := special_run
 unfold isTr at hrun
 split at hrun
 · rename_i h' hr
   refine (envK_calls (ρ := ρ) follows hρ (BT.find_ok tabT_ok) ext0_ok (f := 197) (by kernel_rfl) gokE (args := [.int .u8 (.ofNat 43)]) (cs := [.int .u8 43]) rfl (hrelE ρ w) hr).mono ?_
   rintro e w' ⟨c, rfl, σ', hc, hH', hG⟩
   simp only [conc, Option.some.injEq] at hc
   subst hc
   exact ⟨rfl, goesE hG⟩
 · cases hrun
theorem peek_x (g : Nat) (w : World) (v : Value) (fz : Nat × Nat) (h1 : one v = true) (hw : w.heap[g]? = some (.cells #[.string (bytesOf [120, 43]), .int .i64 1, v] 205 fz)) :
   Calls Tryz.prog 196 #[.pointer (some ⟨g, 0, none⟩)] w fun e w' => e = .returned (.int .u8 43) /\ Stays g w w' /\ ∃ fz', w'.heap[g]? = some (.cells #[.string (bytesOf [120, 43]), .int .i64 1, v] 205 fz') := by
 obtain ⟨ρ, hρ, hval⟩ : ∃ ρ : Rho, ρ.loops = loopsOf Tryz.prog /\ ρ.val 0 = v := ⟨⟨fun _ => v, loopsOf Tryz.prog, fun _ => (0, 0), fun _ => #[]⟩, rfl, rfl⟩
 have hrun := peek_run
 unfold isU8 at hrun
 split at hrun
 · rename_i m h' hr
   simp only [Bool.and_eq_true] at hrun
   have hm := Nat.eq_of_beq_eq_true hrun.1
   subst hm
   have hget := hasAll_mem hrun.2 (b := 13) (List.mem_singleton.2 rfl)
   refine (envK_calls (ρ := ρ) follows hρ (BT.find_ok tabT_ok) ext0_ok (f := 196) (by kernel_rfl) (gokR g) (args := [.ptr 13 0]) (cs := [.pointer (some ⟨g, 0, none⟩)]) (by simp [concL, conc, sigR]) (hrelQ hval h1 hw) hr).mono ?_
   rintro e w' ⟨c, rfl, σ', hc, hH', hG⟩
   simp only [conc, Option.some.injEq] at hc
   subst hc
   refine ⟨rfl, ⟨hG.os, hG.tape, hG.output, hG.size, fun k hk hne => hG.kept k hk fun ⟨b, x, p, g1, g2, g3⟩ => hne ?_⟩, ?_⟩
   · obtain ⟨rfl, _⟩ := heapQ_get g1
     have : sigR g 13 = some ⟨g, 0, 3⟩ := rfl
     rw [this] at g2
     cases g2
     exact g3.symm
   · obtain ⟨p, hp, arr, fz', q1, q2, q3, q4, ⟨cs, q5, q6⟩, q7⟩ := hH'.blk 13 _ hget
     have hs13 : σ' 13 = some ⟨g, 0, 3⟩ := hG.ext 13 _ rfl
     obtain rfl : p = ⟨g, 0, 3⟩ := Option.some.inj (hp.symm.trans hs13)
     obtain ⟨c0, l0, k0, k0', rfl⟩ := concL_cons q5
     obtain ⟨c1, l1, k1, k1', rfl⟩ := concL_cons k0'
     obtain ⟨c2, k2, rfl⟩ := concL_one k1'
     rw [strOf _ (by decide)] at k0
     simp only [conc, hval, h1, if_true, Option.some.injEq] at k0 k1 k2
     subst k0 k1 k2
     refine ⟨fz', ?_⟩
     rw [q1]
     congr 2
     exact threeCells q2 fun i hi => by have := q6 i hi; simp only [Nat.zero_add] at this; exact this
 · cases hrun
theorem fail_x (g : Nat) (w : World) (v : Value) (fz : Nat × Nat) (hw : w.heap[g]? = some (.cells #[.string (bytesOf [120, 43]), .int .i64 1, v] 205 fz)) :
   Calls Tryz.prog 199 #[.pointer (some ⟨g, 0, none⟩)] w fun e w' => e = .panicked [{ v := .iface 201 (.agg #[.int .i64 1, .int .i64 12]), recovered := false }] /\ w' = w := by
 have c1 : w.cell? ⟨g, 1, none⟩ = some (.int .i64 1) := by simp [World.cell?, hw]
 go_enter Tryz.func199, Tryz.ntmps199
 go_wp2
 exact ⟨rfl, rfl, rfl⟩
theorem Stays.trans {g : Nat} {a b c : World} (h : Stays g a b) (k : Stays g b c) : Stays g a c :=
 ⟨k.os.trans h.os, k.tape.trans h.tape, k.output.trans h.output, Nat.le_trans h.size k.size, fun r hr hne => (k.block r (Nat.lt_of_lt_of_le hr h.size) hne).trans (h.block r hr hne)⟩
theorem Stays.below {g : Nat} {a b : World} (h : Below a.heap.size a b) : Stays g a b := ⟨h.os, h.tape, h.output, h.size, fun r hr _ => h.block r hr⟩
theorem next_x2 (g : Nat) (w : World) (v : Value) (fz : Nat × Nat) (h1 : one v = true) (hg0 : g < w.heap.size) (hw : w.heap[g]? = some (.cells #[.string (bytesOf [120, 43]), .int .i64 1, v] 205 fz)) :
   Calls Tryz.prog 133 #[.pointer (some ⟨g, 0, none⟩)] w fun e w' => e = .panicked [{ v := .iface 201 (.agg #[.int .i64 1, .int .i64 12]), recovered := false }] /\ Stays g w w' := by
 go_enter Tryz.func133, Tryz.ntmps133
 go_wp2_with (first
   | (have _ := s2; go_at_call 197; refine (special_plus _).mono ?_; rintro e w3 ⟨rfl, s1⟩; have hw3 := (s1.block g (Nat.lt_of_lt_of_le hg0 (Nat.le_trans s0.size s2.size))).trans hw2; have HB := Lib.hid ((s0.trans s2).trans (Stays.below (g := g) s1)))
   | (have _ := s0; go_at_call 196; refine (peek_x g _ v fz1 h1 hw1).mono ?_; rintro e w2 ⟨rfl, s2, fz2, hw2⟩)
   | (go_at_call 196; refine (peek_x g _ v fz h1 hw).mono ?_; rintro e w1 ⟨rfl, s0, fz1, hw1⟩))
 refine (fail_x g _ v fz2 hw3).mono ?_
 rintro e w4 ⟨rfl, rfl⟩
 go_wp2
 exact ⟨rfl, rfl, HB.out⟩
end Go.EvProp
namespace Go.EvProp
open Go Go.Ev Go.Proofs Go.RowKit
def faultV : Value := .agg #[.int .i64 1, .int .i64 12]
def thePanic (r : Bool) : PanicEntry := { v := .iface 201 faultV, recovered := r }
theorem opsS_value {P : Program} {ops : Array Oper} {Q : Exit -> Act -> List Frame -> World -> Prop} {i : Nat} {rest : List Nat} {a a' : Act} {cs : List Frame} {w w' : World} {o : Oper} {v : Value} (ho : ops[i]? = some o) (hw : Region.wanted o (yielded ops a.tmps) = true) (hr : (execOp a.eval o).run P w = .ok (.value v) w') (ha : a.put o.dst v = a') (h : wpOpsS P ops Q rest a' cs w') : wpOpsS P ops Q (i :: rest) a cs w := by
 simp only [wpOpsS, ho, hw, if_true, hr, Oper.upon]
 rw [ha]; exact h
theorem opsS_skip {P : Program} {ops : Array Oper} {Q : Exit -> Act -> List Frame -> World -> Prop} {i : Nat} {rest : List Nat} {a a' : Act} {cs : List Frame} {w w' : World} {o : Oper} (ho : ops[i]? = some o) (hw : Region.wanted o (yielded ops a.tmps) = true) (hr : (execOp a.eval o).run P w = .ok .skip w') (ha : a.put o.dst undef = a') (h : wpOpsS P ops Q rest a' cs w') : wpOpsS P ops Q (i :: rest) a cs w := by
 simp only [wpOpsS, ho, hw, if_true, hr, Oper.upon]
 rw [ha]; exact h
theorem opsS_recover {P : Program} {ops : Array Oper} {Q : Exit -> Act -> List Frame -> World -> Prop} {i : Nat} {rest : List Nat} {a a' : Act} {cs cs' : List Frame} {w w' : World} {o : Oper} {v : Value} (ho : ops[i]? = some o) (hw : Region.wanted o (yielded ops a.tmps) = true) (hr : (execOp a.eval o).run P w = .ok .recover w') (hd : recoverD cs = some (v, cs')) (ha : a.put o.dst v = a') (h : wpOpsS P ops Q rest a' cs' w') : wpOpsS P ops Q (i :: rest) a cs w := by
 simp only [wpOpsS, ho, hw, if_true, hr, hd]
 rw [ha]; exact h
theorem opsS_norecover {P : Program} {ops : Array Oper} {Q : Exit -> Act -> List Frame -> World -> Prop} {i : Nat} {rest : List Nat} {a a' : Act} {cs : List Frame} {w w' : World} {o : Oper} (ho : ops[i]? = some o) (hw : Region.wanted o (yielded ops a.tmps) = true) (hr : (execOp a.eval o).run P w = .ok .recover w') (hd : recoverD cs = none) (ha : a.put o.dst .nilIface = a') (h : wpOpsS P ops Q rest a' cs w') : wpOpsS P ops Q (i :: rest) a cs w := by
 simp only [wpOpsS, ho, hw, if_true, hr, hd]
 rw [ha]; exact h
def actC (bp ba be : Nat) (x3 x4 x5 x6 x7 x8 x9 x10 : Value) : Act := { tmps := #[.pointer (some ⟨bp, 0, none⟩), .pointer (some ⟨ba, 0, none⟩), .pointer (some ⟨be, 0, none⟩), x3, x4, x5, x6, x7, x8, x9, x10, undef, undef, undef, undef], defers := [] }
theorem catch_panic (w : World) (bp ba be : Nat) (vp va ve : Value) (hp : w.heap[bp]? = some (.cells #[vp] 144 (0, 0))) (ha : w.heap[ba]? = some (.cells #[va] 3 (0, 0))) (he : w.heap[be]? = some (.cells #[ve] 45 (0, 0))) :
   CallsD Tryz.prog 132 #[.pointer (some ⟨bp, 0, none⟩), .pointer (some ⟨ba, 0, none⟩), .pointer (some ⟨be, 0, none⟩)] (.panicking [thePanic false]) w fun e u' w' =>
     e = .returned (.tuple #[]) /\ u' = .panicking [thePanic true] /\ w'.cell? ⟨bp, 0, none⟩ = some (.slice none 0 0) /\ w'.cell? ⟨ba, 0, none⟩ = some (.int .i64 1) /\ w'.cell? ⟨be, 0, none⟩ = some (.int .i64 12) /\ ∀ base, base <= bp -> base <= ba -> base <= be -> base <= w.heap.size -> Below base w w' := by
 refine callsD_of_wpS Tryz.func132 rfl fun c₀ cs hu => ?_
 apply wpS_seq
 apply wpS_region
 have hd : recoverD (c₀ :: cs) = some (.iface 201 faultV, { c₀ with mode := .panicking [thePanic true] } :: cs) := by
   simp [recoverD, hu, thePanic]
 rw [Tryz.ntmps132]
 generalize hcs : { c₀ with mode := .panicking [thePanic true] } :: cs = cs'
 have a0 : ({ tmps := #[.pointer (some ⟨bp, 0, none⟩), .pointer (some ⟨ba, 0, none⟩), .pointer (some ⟨be, 0, none⟩)] ++ Array.replicate (15 - (#[Value.pointer (some ⟨bp, 0, none⟩), .pointer (some ⟨ba, 0, none⟩), .pointer (some ⟨be, 0, none⟩)] : Array Value).size) undef, defers := [] } : Act) = actC bp ba be undef undef undef undef undef undef undef undef := by kernel_rfl
 rw [a0]
 rw [List.range_eq_range']
 simp only [List.size_toArray, List.length_cons, List.length_nil, Nat.reduceAdd]
 rw [show List.range' 0 8 = [0, 1, 2, 3, 4, 5, 6, 7] from rfl]
 generalize hops : (#[_, _, _, _, _, _, _, _] : Array Oper) = ops
 refine opsS_recover (ops := ops) (a' := actC bp ba be undef undef undef (.iface 201 faultV) undef undef undef undef) (w' := w) (by subst hops; rfl) (by subst hops; kernel_rfl) (by kernel_rfl) hd (by kernel_rfl) ?_
 refine opsS_value (v := .tuple #[faultV, .bool true]) (a' := actC bp ba be undef undef undef (.iface 201 faultV) (.tuple #[faultV, .bool true]) undef undef undef) (w' := w) (by subst hops; rfl) (by subst hops; kernel_rfl) (by kernel_rfl) (by kernel_rfl) ?_
 refine opsS_value (v := .tuple #[faultV, .bool true]) (a' := actC bp ba be undef undef (.tuple #[faultV, .bool true]) (.iface 201 faultV) (.tuple #[faultV, .bool true]) undef undef undef) (w' := w) (by subst hops; rfl) (by subst hops; kernel_rfl) (by kernel_rfl) (by kernel_rfl) ?_
 refine opsS_value (v := faultV) (a' := actC bp ba be undef undef (.tuple #[faultV, .bool true]) (.iface 201 faultV) (.tuple #[faultV, .bool true]) faultV undef undef) (w' := w) (by subst hops; rfl) (by subst hops; kernel_rfl) (by kernel_rfl) (by kernel_rfl) ?_
 refine opsS_value (v := .bool true) (a' := actC bp ba be undef undef (.tuple #[faultV, .bool true]) (.iface 201 faultV) (.tuple #[faultV, .bool true]) faultV (.bool true) undef) (w' := w) (by subst hops; rfl) (by subst hops; kernel_rfl) (by kernel_rfl) (by kernel_rfl) ?_
 refine opsS_value (v := .pointer (some ⟨w.heap.size, 0, none⟩)) (a' := actC bp ba be (.pointer (some ⟨w.heap.size, 0, none⟩)) undef (.tuple #[faultV, .bool true]) (.iface 201 faultV) (.tuple #[faultV, .bool true]) faultV (.bool true) undef) (w' := w.alloc (.cells #[.int .i64 0, .int .i64 0] 201 (0, 0))) (by subst hops; rfl) (by subst hops; kernel_rfl) (by kernel_rfl) (by kernel_rfl) ?_
 refine opsS_skip (a' := actC bp ba be (.pointer (some ⟨w.heap.size, 0, none⟩)) undef (.tuple #[faultV, .bool true]) (.iface 201 faultV) (.tuple #[faultV, .bool true]) faultV (.bool true) undef) (w' := w.alloc (.cells #[.int .i64 1, .int .i64 12] 201 (0, 0))) (by subst hops; rfl) (by subst hops; kernel_rfl) (by simp [go_sem, execOp, actC, Act.eval, faultV]) (by kernel_rfl) ?_
 refine opsS_value (v := .bool true) (a' := actC bp ba be (.pointer (some ⟨w.heap.size, 0, none⟩)) (.bool true) (.tuple #[faultV, .bool true]) (.iface 201 faultV) (.tuple #[faultV, .bool true]) faultV (.bool true) undef) (w' := w.alloc (.cells #[.int .i64 1, .int .i64 12] 201 (0, 0))) (by subst hops; rfl) (by subst hops; kernel_rfl) (by kernel_rfl) (by kernel_rfl) ?_
 clear hops a0 hd
 show Code.wpS _ _ _ _ _ _
 refine wpS_of_wp ?_
 unfold actC
 have g0 : bp < w.heap.size := (Array.getElem?_eq_some_iff.1 hp).1
 have g1 : ba < w.heap.size := (Array.getElem?_eq_some_iff.1 ha).1
 have g2 : be < w.heap.size := (Array.getElem?_eq_some_iff.1 he).1
 have c0 : w.cell? ⟨bp, 0, none⟩ = some vp := by simp [World.cell?, hp]
 have c1 : w.cell? ⟨ba, 0, none⟩ = some va := by simp [World.cell?, ha]
 have c2 : w.cell? ⟨be, 0, none⟩ = some ve := by simp [World.cell?, he]
 have z0 : w.frozen? ⟨bp, 0, none⟩ = false := by simp [World.frozen?, hp]
 have z1 : w.frozen? ⟨ba, 0, none⟩ = false := by simp [World.frozen?, ha]
 have z2 : w.frozen? ⟨be, 0, none⟩ = false := by simp [World.frozen?, he]
 have n1 : bp ≠ ba := fun e => by subst e; rw [hp] at ha; simp at ha
 have n2 : bp ≠ be := fun e => by subst e; rw [hp] at he; simp at he
 have n3 : ba ≠ be := fun e => by subst e; rw [ha] at he; simp at he
 have n4 : bp ≠ w.heap.size := by omega
 have n5 : ba ≠ w.heap.size := by omega
 have n6 : be ≠ w.heap.size := by omega
 have k0 := Below.alloc (Below.refl w.heap.size w) (Nat.le_refl _) (.cells #[.int .i64 1, .int .i64 12] 201 (0, 0))
 have c3 : (w.alloc (.cells #[.int .i64 1, .int .i64 12] 201 (0, 0))).cell? ⟨w.heap.size, 0, none⟩ = some (.int .i64 1) := cellOf (i := 0) (heapNew w _) rfl
 have c4 : (w.alloc (.cells #[.int .i64 1, .int .i64 12] 201 (0, 0))).cell? ⟨w.heap.size, 1, none⟩ = some (.int .i64 12) := cellOf (i := 1) (heapNew w _) rfl
 have c0' := (k0.cell (p := ⟨bp, 0, none⟩) g0).trans c0
 have c1' := (k0.cell (p := ⟨ba, 0, none⟩) g1).trans c1
 have c2' := (k0.cell (p := ⟨be, 0, none⟩) g2).trans c2
 have z0' := (k0.frozen (p := ⟨bp, 0, none⟩) g0).trans z0
 have z1' := (k0.frozen (p := ⟨ba, 0, none⟩) g1).trans z1
 have z2' := (k0.frozen (p := ⟨be, 0, none⟩) g2).trans z2
 have K0 := Lib.hid k0
 clear k0
 generalize w.alloc (.cells #[.int .i64 1, .int .i64 12] 201 (0, 0)) = W at *
 obtain ⟨nb, hnb⟩ : ∃ nb, Hid (nb = w.heap.size) := ⟨_, rfl⟩
 rw [← hnb.out] at c3 c4 n4 n5 n6
 rw [← hnb.out]
 clear hp ha he hcs c0 c1 c2 z0 z1 z2 g0 g1 g2
 go_wp2
 go_region_held3 (fun W => W.cell? ⟨nb, 0, none⟩ = some (.int .i64 1) /\ W.cell? ⟨nb, 1, none⟩ = some (.int .i64 12)) (go_keep) (fail)
 show bodyPostS _ _ _ _ _ _ _ _ _
 refine ⟨rfl, _, rfl, .tuple #[], by simp [results, Tryz.results132], rfl, rfl, ?_, ?_, ?_, ?_⟩
 · simp [go_sem, n1, n2, n3, c0', c1', c2', Ne.symm n1, Ne.symm n2, Ne.symm n3]
 · simp [go_sem, n1, n2, n3, c0', c1', c2', Ne.symm n1, Ne.symm n2, Ne.symm n3]
 · simp [go_sem, n1, n2, n3, c0', c1', c2', Ne.symm n1, Ne.symm n2, Ne.symm n3]
 · intro base h1 h2 h3 h4
   rw [hnb.out] at h4
   exact (Below.setCell (Below.setCell (Below.setCell (K0.out.mono h4) (p := ⟨bp, 0, none⟩) h1 _) (p := ⟨ba, 0, none⟩) h2 _) (p := ⟨be, 0, none⟩) h3 _).drew
def zeroFault : Value := .agg #[.int .i64 0, .int .i64 0]
theorem catch_idle (w : World) (bp ba be : Nat) :
   CallsD Tryz.prog 132 #[.pointer (some ⟨bp, 0, none⟩), .pointer (some ⟨ba, 0, none⟩), .pointer (some ⟨be, 0, none⟩)] .returning w fun e u' w' =>
     e = .returned (.tuple #[]) /\ u' = .returning /\ Below w.heap.size w w' := by
 refine callsD_of_wpS Tryz.func132 rfl fun c₀ cs hu => ?_
 apply wpS_seq
 apply wpS_region
 have hd : recoverD (c₀ :: cs) = none := by
   simp [recoverD, hu]
 rw [Tryz.ntmps132]
 have a0 : ({ tmps := #[.pointer (some ⟨bp, 0, none⟩), .pointer (some ⟨ba, 0, none⟩), .pointer (some ⟨be, 0, none⟩)] ++ Array.replicate (15 - (#[Value.pointer (some ⟨bp, 0, none⟩), .pointer (some ⟨ba, 0, none⟩), .pointer (some ⟨be, 0, none⟩)] : Array Value).size) undef, defers := [] } : Act) = actC bp ba be undef undef undef undef undef undef undef undef := by kernel_rfl
 rw [a0]
 rw [List.range_eq_range']
 simp only [List.size_toArray, List.length_cons, List.length_nil, Nat.reduceAdd]
 rw [show List.range' 0 8 = [0, 1, 2, 3, 4, 5, 6, 7] from rfl]
 generalize hops : (#[_, _, _, _, _, _, _, _] : Array Oper) = ops
 refine opsS_norecover (ops := ops) (a' := actC bp ba be undef undef undef .nilIface undef undef undef undef) (w' := w) (by subst hops; rfl) (by subst hops; kernel_rfl) (by kernel_rfl) hd (by kernel_rfl) ?_
 refine opsS_value (v := .tuple #[zeroFault, .bool false]) (a' := actC bp ba be undef undef undef .nilIface (.tuple #[zeroFault, .bool false]) undef undef undef) (w' := w) (by subst hops; rfl) (by subst hops; kernel_rfl) (by kernel_rfl) (by kernel_rfl) ?_
 refine opsS_value (v := .tuple #[zeroFault, .bool false]) (a' := actC bp ba be undef undef (.tuple #[zeroFault, .bool false]) .nilIface (.tuple #[zeroFault, .bool false]) undef undef undef) (w' := w) (by subst hops; rfl) (by subst hops; kernel_rfl) (by kernel_rfl) (by kernel_rfl) ?_
 refine opsS_value (v := zeroFault) (a' := actC bp ba be undef undef (.tuple #[zeroFault, .bool false]) .nilIface (.tuple #[zeroFault, .bool false]) zeroFault undef undef) (w' := w) (by subst hops; rfl) (by subst hops; kernel_rfl) (by kernel_rfl) (by kernel_rfl) ?_
 refine opsS_value (v := .bool false) (a' := actC bp ba be undef undef (.tuple #[zeroFault, .bool false]) .nilIface (.tuple #[zeroFault, .bool false]) zeroFault (.bool false) undef) (w' := w) (by subst hops; rfl) (by subst hops; kernel_rfl) (by kernel_rfl) (by kernel_rfl) ?_
 refine opsS_value (v := .pointer (some ⟨w.heap.size, 0, none⟩)) (a' := actC bp ba be (.pointer (some ⟨w.heap.size, 0, none⟩)) undef (.tuple #[zeroFault, .bool false]) .nilIface (.tuple #[zeroFault, .bool false]) zeroFault (.bool false) undef) (w' := w.alloc (.cells #[.int .i64 0, .int .i64 0] 201 (0, 0))) (by subst hops; rfl) (by subst hops; kernel_rfl) (by kernel_rfl) (by kernel_rfl) ?_
 refine opsS_skip (a' := actC bp ba be (.pointer (some ⟨w.heap.size, 0, none⟩)) undef (.tuple #[zeroFault, .bool false]) .nilIface (.tuple #[zeroFault, .bool false]) zeroFault (.bool false) undef) (w' := w.alloc (.cells #[.int .i64 0, .int .i64 0] 201 (0, 0))) (by subst hops; rfl) (by subst hops; kernel_rfl) (by simp [go_sem, execOp, actC, Act.eval, zeroFault]) (by kernel_rfl) ?_
 refine opsS_value (v := .bool false) (a' := actC bp ba be (.pointer (some ⟨w.heap.size, 0, none⟩)) (.bool false) (.tuple #[zeroFault, .bool false]) .nilIface (.tuple #[zeroFault, .bool false]) zeroFault (.bool false) undef) (w' := w.alloc (.cells #[.int .i64 0, .int .i64 0] 201 (0, 0))) (by subst hops; rfl) (by subst hops; kernel_rfl) (by kernel_rfl) (by kernel_rfl) ?_
 clear hops a0 hd
 show Code.wpS _ _ _ _ _ _
 refine wpS_of_wp ?_
 unfold actC
 go_wp2
 refine ⟨rfl, .returning, ?_, .tuple #[], by simp [results, Tryz.results132], rfl, rfl, (Below.refl _ _).alloc (Nat.le_refl _) _⟩
 cases c₀
 simp_all
theorem Stays.new {base g : Nat} {a b c : World} (h : Below base a b) (k : Stays g b c) (hg : base <= g) (hb : base <= b.heap.size) : Below base a c :=
 ⟨k.os.trans h.os, k.tape.trans h.tape, k.output.trans h.output, Nat.le_trans h.size k.size, fun r hr => (k.block r (by omega) (by omega)).trans (h.block r hr)⟩
structure Four (w W : World) (s : ByteArray) (bp ba be g : Nat) : Prop where
 p : W.heap[bp]? = some (.cells #[.slice none 0 0] 144 (0, 0))
 a : W.heap[ba]? = some (.cells #[.int .i64 0] 3 (0, 0))
 e : W.heap[be]? = some (.cells #[.int .i64 0] 45 (0, 0))
 r : W.heap[g]? = some (.cells #[.string s, .int .i64 0, .slice none 0 0] 205 (0, 0))
 h : Below w.heap.size w W
 hp : w.heap.size <= bp
 ha : w.heap.size <= ba
 he : w.heap.size <= be
 hg : w.heap.size <= g
 lt : bp < g /\ ba < g /\ be < g /\ g < W.heap.size
theorem four (w : World) (s : ByteArray) : Four w ((((w.alloc (.cells #[.slice none 0 0] 144 (0, 0))).alloc (.cells #[.int .i64 0] 3 (0, 0))).alloc (.cells #[.int .i64 0] 45 (0, 0))).alloc (.cells #[.string s, .int .i64 0, .slice none 0 0] 205 (0, 0))) s w.heap.size (w.heap.size + 1) (w.heap.size + 1 + 1) (w.heap.size + 1 + 1 + 1) := by
 have s1 := sizeNew w (.cells #[.slice none 0 0] 144 (0, 0))
 have h1 := heapNew w (.cells #[.slice none 0 0] 144 (0, 0))
 have b1 := Below.alloc (Below.refl w.heap.size w) (Nat.le_refl _) (.cells #[.slice none 0 0] 144 (0, 0))
 generalize w.alloc (.cells #[.slice none 0 0] 144 (0, 0)) = w1 at *
 have s2 := sizeNew w1 (.cells #[.int .i64 0] 3 (0, 0))
 have h2 := heapNew w1 (.cells #[.int .i64 0] 3 (0, 0))
 have o2 := fun {k} => heapOld w1 (.cells #[.int .i64 0] 3 (0, 0)) (k := k)
 have b2 := b1.alloc (by omega) (.cells #[.int .i64 0] 3 (0, 0))
 generalize w1.alloc (.cells #[.int .i64 0] 3 (0, 0)) = w2 at *
 have s3 := sizeNew w2 (.cells #[.int .i64 0] 45 (0, 0))
 have h3 := heapNew w2 (.cells #[.int .i64 0] 45 (0, 0))
 have o3 := fun {k} => heapOld w2 (.cells #[.int .i64 0] 45 (0, 0)) (k := k)
 have b3 := b2.alloc (by omega) (.cells #[.int .i64 0] 45 (0, 0))
 generalize w2.alloc (.cells #[.int .i64 0] 45 (0, 0)) = w3 at *
 have s4 := sizeNew w3 (.cells #[.string s, .int .i64 0, .slice none 0 0] 205 (0, 0))
 have h4 := heapNew w3 (.cells #[.string s, .int .i64 0, .slice none 0 0] 205 (0, 0))
 have o4 := fun {k} => heapOld w3 (.cells #[.string s, .int .i64 0, .slice none 0 0] 205 (0, 0)) (k := k)
 have b4 := b3.alloc (by omega) (.cells #[.string s, .int .i64 0, .slice none 0 0] 205 (0, 0))
 generalize w3.alloc (.cells #[.string s, .int .i64 0, .slice none 0 0] 205 (0, 0)) = w4 at *
 have e1 : w1.heap.size = w.heap.size + 1 := by omega
 have e2 : w2.heap.size = w.heap.size + 1 + 1 := by omega
 have e3 : w3.heap.size = w.heap.size + 1 + 1 + 1 := by omega
 refine ⟨?_, ?_, ?_, ?_, b4, by omega, by omega, by omega, by omega, by omega⟩
 · rw [o4 (by omega), o3 (by omega), o2 (by omega)]; exact h1
 · rw [o4 (by omega), o3 (by omega), ← e1]; exact h2
 · rw [o4 (by omega), ← e2]; exact h3
 · rw [← e3]; exact h4
theorem parse_x (w : World) : Calls Tryz.prog 75 #[.string (bytesOf [120, 43])] w fun e w' => e = .returned (.tuple #[.slice none 0 0, .int .i64 1, .int .i64 12]) /\ Below w.heap.size w w' := by
 have hmf : ∀ (fn : Fn) (first cap : Array Value) (w : World), (Instr.makeFunc fn first cap).run Tryz.prog w = .ok (.func fn first cap) w := fun _ _ _ _ => rfl
 have hsz : (bytesOf [120, 43]).size = 2 := rfl
 have F := four w (bytesOf [120, 43])
 generalize hs0 : bytesOf [120, 43] = s0 at *
 go_enter_defers Tryz.func75, Tryz.ntmps75
 go_wp2
 generalize ((((w.alloc (.cells #[.slice none 0 0] 144 (0, 0))).alloc (.cells #[.int .i64 0] 3 (0, 0))).alloc (.cells #[.int .i64 0] 45 (0, 0))).alloc (.cells #[.string s0, .int .i64 0, .slice none 0 0] 205 (0, 0))) = W at *
 generalize hbp : w.heap.size + 1 + 1 + 1 = g at *
 generalize hbe : w.heap.size + 1 + 1 = be at *
 generalize hba : w.heap.size + 1 = ba at *
 obtain ⟨bp, hbp'⟩ : ∃ bp, Hid (bp = w.heap.size) := ⟨_, rfl⟩
 have F' := Lib.hid F
 rw [← hbp'.out] at F
 rw [← hbp'.out]
 have c1 : W.cell? ⟨g, 1, none⟩ = some (.int .i64 0) := by simp [World.cell?, F.r]
 refine wp_loop_rounds 2 ?_
 rw [rounds_succ]
 go_wp2_with (go_at_call 133; refine (next_x1 g _ (by rw [hs0]; exact F.r)).mono ?_; rintro e W1 ⟨rfl, hS1, v1, fz1, ho1, hr1⟩; rw [hs0] at hr1; have c2 : W1.cell? ⟨g, 1, none⟩ = some (.int .i64 1) := (by simp [World.cell?, hr1]))
 rw [rounds_succ]
 have g1 : g < W1.heap.size := (Array.getElem?_eq_some_iff.1 hr1).1
 go_wp2_with (go_at_call 133; refine (next_x2 g _ v1 fz1 ho1 g1 (by rw [hs0]; exact hr1)).mono ?_; rintro e W2 ⟨rfl, hS2⟩)
 have hS := hS1.trans hS2
 have q : bp ≠ g /\ ba ≠ g /\ be ≠ g := by have := F'.out.lt; have := hbp'.out; omega
 have q' : bp < W.heap.size /\ ba < W.heap.size /\ be < W.heap.size := by have := F'.out.lt; have := hbp'.out; omega
 refine leaves_cons (f := 132) (args := #[.pointer (some ⟨bp, 0, none⟩), .pointer (some ⟨ba, 0, none⟩), .pointer (some ⟨be, 0, none⟩)]) (by simp) (by simp [go_sem]) ?_
 refine (catch_panic _ bp ba be _ _ _ ((hS.block bp q'.1 q.1).trans F.p) ((hS.block ba q'.2.1 q.2.1).trans F.a) ((hS.block be q'.2.2 q.2.2).trans F.e)).mono ?_
 rintro e u' W3 ⟨rfl, rfl, d1, d2, d3, hB⟩
 have hB' := hB w.heap.size (by rw [hbp'.out]; exact Nat.le_refl _) F'.out.ha F'.out.he (Nat.le_trans F'.out.h.size hS.size)
 have HB : Hid (Below w.heap.size w W3) := (Stays.new F'.out.h hS F'.out.hg F'.out.h.size).trans hB'
 simp [Leaves, settle, results, Tryz.results75, go_sem, thePanic, d1, d2, d3]
 exact HB.out
theorem parse_l (w : World) : Calls Tryz.prog 75 #[.string (bytesOf [92, 108, 43])] w fun e w' => ∃ b del tot, e = .returned (.tuple #[.slice (some ⟨b, del, none⟩) 1 (tot / 4), .int .i64 0, .int .i64 0]) /\ w.heap.size <= b /\ PieceAt w' b del tot /\ Below w.heap.size w w' := by
 have hmf : ∀ (fn : Fn) (first cap : Array Value) (w : World), (Instr.makeFunc fn first cap).run Tryz.prog w = .ok (.func fn first cap) w := fun _ _ _ _ => rfl
 have hsz : (bytesOf [92, 108, 43]).size = 3 := rfl
 have F := four w (bytesOf [92, 108, 43])
 generalize hs0 : bytesOf [92, 108, 43] = s0 at *
 go_enter_defers Tryz.func75, Tryz.ntmps75
 go_wp2
 generalize ((((w.alloc (.cells #[.slice none 0 0] 144 (0, 0))).alloc (.cells #[.int .i64 0] 3 (0, 0))).alloc (.cells #[.int .i64 0] 45 (0, 0))).alloc (.cells #[.string s0, .int .i64 0, .slice none 0 0] 205 (0, 0))) = W at *
 generalize hbp : w.heap.size + 1 + 1 + 1 = g at *
 generalize hbe : w.heap.size + 1 + 1 = be at *
 generalize hba : w.heap.size + 1 = ba at *
 obtain ⟨bp, hbp'⟩ : ∃ bp, Hid (bp = w.heap.size) := ⟨_, rfl⟩
 have F' := Lib.hid F
 rw [← hbp'.out] at F
 rw [← hbp'.out]
 have c1 : W.cell? ⟨g, 1, none⟩ = some (.int .i64 0) := by simp [World.cell?, F.r]
 have n1 : bp ≠ ba := by have := hbp'.out; omega
 have n2 : bp ≠ be := by have := hbp'.out; omega
 have n3 : ba ≠ be := by omega
 refine wp_loop_rounds 2 ?_
 rw [rounds_succ]
 go_wp2_with (go_at_call 133; refine (next_l g _ F'.out.lt.2.2.2 (by rw [hs0]; exact F.r)).mono ?_; rintro e W1 ⟨rfl, hS1, b1, del1, tot1, fz1, hr1, hge1, hP1⟩; rw [hs0] at hr1; have c2 : W1.cell? ⟨g, 1, none⟩ = some (.int .i64 3) := (by simp [World.cell?, hr1]); have c3 : W1.cell? ⟨g, 2, none⟩ = some (.slice (some ⟨b1, del1, none⟩) 1 (tot1 / 4)) := (by simp [World.cell?, hr1]); have c4 : W1.cell? ⟨bp, 0, none⟩ = some (.slice none 0 0) := (by have := hS1.block bp (by have := F'.out.lt; have := hbp'.out; omega) (by have := F'.out.lt; have := hbp'.out; omega); simp [World.cell?, this, F.p]); have c5 : W1.cell? ⟨ba, 0, none⟩ = some (.int .i64 0) := (by have := hS1.block ba (by have := F'.out.lt; have := hbp'.out; omega) (by have := F'.out.lt; have := hbp'.out; omega); simp [World.cell?, this, F.a]); have c6 : W1.cell? ⟨be, 0, none⟩ = some (.int .i64 0) := (by have := hS1.block be (by have := F'.out.lt; have := hbp'.out; omega) (by have := F'.out.lt; have := hbp'.out; omega); simp [World.cell?, this, F.e]); have z4 : W1.frozen? ⟨bp, 0, none⟩ = false := (by have := hS1.block bp (by have := F'.out.lt; have := hbp'.out; omega) (by have := F'.out.lt; have := hbp'.out; omega); simp [World.frozen?, this, F.p]); have z5 : W1.frozen? ⟨ba, 0, none⟩ = false := (by have := hS1.block ba (by have := F'.out.lt; have := hbp'.out; omega) (by have := F'.out.lt; have := hbp'.out; omega); simp [World.frozen?, this, F.a]); have z6 : W1.frozen? ⟨be, 0, none⟩ = false := (by have := hS1.block be (by have := F'.out.lt; have := hbp'.out; omega) (by have := F'.out.lt; have := hbp'.out; omega); simp [World.frozen?, this, F.e]))
 rw [rounds_succ]
 go_wp2
 have q : bp < W.heap.size /\ ba < W.heap.size /\ be < W.heap.size := by have := F'.out.lt; have := hbp'.out; omega
 have hsz1 := hS1.size
 have B1 := Stays.new F'.out.h hS1 F'.out.hg F'.out.h.size
 have B2 : Below w.heap.size w (((W1.setCell ⟨bp, 0, none⟩ (.slice (some ⟨b1, del1, none⟩) 1 (tot1 / 4))).setCell ⟨ba, 0, none⟩ (.int .i64 0)).setCell ⟨be, 0, none⟩ (.int .i64 0)) :=
   ((B1.setCell (p := ⟨bp, 0, none⟩) (by rw [hbp'.out]; exact Nat.le_refl _) _).setCell (p := ⟨ba, 0, none⟩) F'.out.ha _).setCell (p := ⟨be, 0, none⟩) F'.out.he _
 have d1 : (((W1.setCell ⟨bp, 0, none⟩ (.slice (some ⟨b1, del1, none⟩) 1 (tot1 / 4))).setCell ⟨ba, 0, none⟩ (.int .i64 0)).setCell ⟨be, 0, none⟩ (.int .i64 0)).cell? ⟨bp, 0, none⟩ = some (.slice (some ⟨b1, del1, none⟩) 1 (tot1 / 4)) := by
   simp [go_sem, n1, n2, n3, c4, c5, c6, Ne.symm n1, Ne.symm n2, Ne.symm n3]
 have d2 : (((W1.setCell ⟨bp, 0, none⟩ (.slice (some ⟨b1, del1, none⟩) 1 (tot1 / 4))).setCell ⟨ba, 0, none⟩ (.int .i64 0)).setCell ⟨be, 0, none⟩ (.int .i64 0)).cell? ⟨ba, 0, none⟩ = some (.int .i64 0) := by
   simp [go_sem, n1, n2, n3, c4, c5, c6, Ne.symm n1, Ne.symm n2, Ne.symm n3]
 have d3 : (((W1.setCell ⟨bp, 0, none⟩ (.slice (some ⟨b1, del1, none⟩) 1 (tot1 / 4))).setCell ⟨ba, 0, none⟩ (.int .i64 0)).setCell ⟨be, 0, none⟩ (.int .i64 0)).cell? ⟨be, 0, none⟩ = some (.int .i64 0) := by
   simp [go_sem, n1, n2, n3, c4, c5, c6, Ne.symm n1, Ne.symm n2, Ne.symm n3]
 have hb1 : b1 < W1.heap.size := by
   obtain ⟨arr, fz, h, _⟩ := hP1.ex
   exact (Array.getElem?_eq_some_iff.1 h).1
 have d4 : (((W1.setCell ⟨bp, 0, none⟩ (.slice (some ⟨b1, del1, none⟩) 1 (tot1 / 4))).setCell ⟨ba, 0, none⟩ (.int .i64 0)).setCell ⟨be, 0, none⟩ (.int .i64 0)).heap[b1]? = W1.heap[b1]? := by
   rw [Below.heap_setCell _ _ _ _ (by show b1 ≠ be; omega), Below.heap_setCell _ _ _ _ (by show b1 ≠ ba; omega), Below.heap_setCell _ _ _ _ (by show b1 ≠ bp; omega)]
 have d5 : (((W1.setCell ⟨bp, 0, none⟩ (.slice (some ⟨b1, del1, none⟩) 1 (tot1 / 4))).setCell ⟨ba, 0, none⟩ (.int .i64 0)).setCell ⟨be, 0, none⟩ (.int .i64 0)).heap.size = W1.heap.size := by simp
 generalize ((W1.setCell ⟨bp, 0, none⟩ (.slice (some ⟨b1, del1, none⟩) 1 (tot1 / 4))).setCell ⟨ba, 0, none⟩ (.int .i64 0)).setCell ⟨be, 0, none⟩ (.int .i64 0) = W2 at *
 refine leaves_cons (f := 132) (args := #[.pointer (some ⟨bp, 0, none⟩), .pointer (some ⟨ba, 0, none⟩), .pointer (some ⟨be, 0, none⟩)]) (by simp) (by simp [go_sem]) ?_
 refine (catch_idle _ bp ba be).mono ?_
 rintro e u' W3 ⟨rfl, rfl, hB⟩
 have f1 := (hB.cell (p := ⟨bp, 0, none⟩) (by show bp < _; omega)).trans d1
 have f2 := (hB.cell (p := ⟨ba, 0, none⟩) (by show ba < _; omega)).trans d2
 have f3 := (hB.cell (p := ⟨be, 0, none⟩) (by show be < _; omega)).trans d3
 have HB : Hid (Below w.heap.size w W3) := B2.trans (hB.mono B2.size)
 have hP3 : Hid (PieceAt W3 b1 del1 tot1) := by
   obtain ⟨arr, fz, h, h2⟩ := hP1.ex
   exact ⟨⟨arr, fz, by rw [hB.block b1 (by omega), d4]; exact h, h2⟩, hP1.tot⟩
 have hge : Hid (w.heap.size <= b1) := by have := F'.out.h.size; exact Nat.le_trans this hge1
 have hres : (results Tryz.f75 #[.string s0, undef, .pointer (some ⟨bp, 0, none⟩), .pointer (some ⟨ba, 0, none⟩), .pointer (some ⟨be, 0, none⟩), .pointer (some ⟨g, 0, none⟩), .string s0, .int .i64 3, .bool false, .func (.func 132) #[] #[.pointer (some ⟨bp, 0, none⟩), .pointer (some ⟨ba, 0, none⟩), .pointer (some ⟨be, 0, none⟩)], .string s0, .agg #[.string s0, .int .i64 0, .slice none 0 0], .pointer (some ⟨g, 0, none⟩), .pointer (some ⟨g, 0, none⟩), .pointer (some ⟨g, 0, none⟩), .pointer (some ⟨g, 1, none⟩), .int .i64 3, .string s0, .int .i64 3, .bool false, .pointer (some ⟨g, 0, none⟩), .tuple #[], .pointer (some ⟨g, 0, none⟩), .pointer (some ⟨g, 0, none⟩), .pointer (some ⟨g, 2, none⟩), .slice (some ⟨b1, del1, none⟩) 1 (tot1 / 4)]).run Tryz.prog W3 = .ok (.tuple #[.slice (some ⟨b1, del1, none⟩) 1 (tot1 / 4), .int .i64 0, .int .i64 0]) W3 := by
   simp [results, Tryz.results75, go_sem, f1, f2, f3]
 exact ⟨_, hres, b1, del1, tot1, rfl, hge.out, hP3.out, HB.out⟩
end Go.EvProp
namespace Go.EvProp
open Go Go.Ev Go.Proofs
def parseV : List AV -> H -> Option (AV × H)
 | [.str [120, 43]], h => some (.tup [.nilslice, .int .i64 (.ofNat 1), .int .i64 (.ofNat 12)], h)
 | [.str [92, 108, 43]], h => bif Nat.blt h.nx maxT then some (.tup [.slice h.nx 0 1 4 none, .int .i64 (.ofNat 0), .int .i64 (.ofNat 0)], h.add (.cells 260 [.int .i64 (.ofNat 3), .int .i64 (.ofNat 1), .int .i64 (.ofNat 200), .str []] false true)) else none
 | _, _ => none
def extP : Ext1 := fun f => bif Nat.beq f 75 then some parseV else ext0 f
def tens : List AV := [.int .i64 (.ofNat 1), .int .i64 (.ofNat 10), .int .i64 (.ofNat 100), .int .i64 (.ofNat 1000), .int .i64 (.ofNat 10000), .int .i64 (.ofNat 100000), .int .i64 (.ofNat 1000000)]
def tensB : ABlk := .ro 265 tens
def pows : List AV := [.int .u64 (.ofNat 1), .int .u64 (.ofNat 10), .int .u64 (.ofNat 100), .int .u64 (.ofNat 1000), .int .u64 (.ofNat 10000), .int .u64 (.ofNat 100000), .int .u64 (.ofNat 1000000), .int .u64 (.ofNat 10000000), .int .u64 (.ofNat 100000000), .int .u64 (.ofNat 1000000000), .int .u64 (.ofNat 10000000000), .int .u64 (.ofNat 100000000000), .int .u64 (.ofNat 1000000000000), .int .u64 (.ofNat 10000000000000), .int .u64 (.ofNat 100000000000000), .int .u64 (.ofNat 1000000000000000), .int .u64 (.ofNat 10000000000000000), .int .u64 (.ofNat 100000000000000000), .int .u64 (.ofNat 1000000000000000000), .int .u64 (.ofNat 10000000000000000000)]
def powB : ABlk := .ro 306 pows
def h0 : H := ((⟨.e, 13⟩ : H).upd 0 (some tensB)).upd 1 (some powB)
end Go.EvProp
