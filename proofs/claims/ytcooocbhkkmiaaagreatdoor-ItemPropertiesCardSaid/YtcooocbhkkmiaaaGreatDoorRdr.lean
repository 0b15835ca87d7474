/-
  The reader of patterns, stepped.
-/
import Derived.Test.YtcooocbhkkmiaaaGreatDoorTab
import Derived.Test.YtcooocbhkkmiaaaGreatDoorWalkA
import Derived.Defers
import Derived.Recover
import Derived.Laws.Pointers
set_option linter.all false
namespace Go.EvProp
open Go Go.Ev Go.Proofs Go.RowKit
set_option maxRecDepth 100000

def sigR (g : Nat) : Sig := fun b => if b < 13 then some ⟨b, 0, 0⟩ else if b = 13 then some ⟨g, 0, 3⟩ else none
def heapR (vs : List AV) : H := (⟨.e, 14⟩ : H).upd 13 (some (.cells 183 vs true true))
theorem gsize : Tryz.prog.globals.size = 13 := by kernel_rfl
theorem gokR (g : Nat) : GOk Tryz.prog (sigR g) := fun k hk => ⟨0, by rw [gsize] at hk; simp [sigR, hk]⟩
theorem heapR_get {vs : List AV} {b : Nat} {x : ABlk} (h : (heapR vs).get b = some x) : b = 13 ∧ x = .cells 183 vs true true := by
  unfold heapR at h
  rw [H.get_upd _ _ _ _ (by decide)] at h
  by_cases e : b = 13
  · rw [if_pos e] at h; cases h; exact ⟨e, rfl⟩
  · rw [if_neg e] at h; simp [H.get, T.get] at h
theorem hrelR {ρ : Rho} {g : Nat} {w : World} {vs : List AV} {a b c : Value} (hw : w.heap[g]? = some (.cells #[a, b, c] 183 (0, 0))) (hl : vs.length = 3) (hc : concL ρ (sigR g) vs = some [a, b, c]) : HRel ρ (sigR g) (heapR vs) w := by
  refine ⟨fun b' x hb => ?_, fun b b' x x' p p' hb hb' _ _ hne => ?_, fun b hb => ?_⟩
  · obtain ⟨rfl, rfl⟩ := heapR_get hb
    refine ⟨⟨g, 0, 3⟩, rfl, _, _, hw, rfl, by rw [hl]; exact Nat.le_refl 3, fun _ => ⟨hl, rfl⟩, ⟨_, hc, fun i hi => by simp⟩, fun _ i _ hi => by simp⟩
  · exact absurd ((heapR_get hb).1.trans (heapR_get hb').1.symm) hne
  · have hb : 14 ≤ b := hb
    unfold sigR
    rw [if_neg (by omega), if_neg (by omega)]

/-- The reader of the string s at a place. -/
def startR (s : List Nat) : List AV := [.str s, .int .i64 (.ofNat 0), .nilslice]

def readAt (s : List Nat) (k : Nat) (r : Option (AV × H)) : Bool := match r with
  | some (.tup [], h') => (match h'.get 13 with | some (.cells t [.str s', .int .i64 (.ofNat n), .slice m 0 1 4 none] true true) => Nat.beq t 183 && s == s' && Nat.beq n k && !(Nat.beq m 13) && (match h'.get m with | some (.cells t' vs _ true) => Nat.beq t' 239 && AV.beqL vs [.int .i64 (.ofNat 3), .int .i64 (.ofNat 1), .int .i64 (.ofNat 200), .str []] | _ => Nat.beq k 1) | _ => false)
  | _ => false
def readX (s : List Nat) (k : Nat) (r : Option (AV × H)) : Bool := match r with
  | some (.tup [], h') => (match h'.get 13 with | some (.cells t [.str s', .int .i64 (.ofNat n), .slice m _ _ _ _] true true) => Nat.beq t 183 && s == s' && Nat.beq n k && !(Nat.beq m 13) | _ => false)
  | _ => false
theorem next_run_l : readAt [92, 108, 43] 3 ((envK Tryz.prog ext0 tabT.find 100).call 142 [.ptr 13 0] (heapR (startR [92, 108, 43]))) = true := by kernel_rfl
theorem next_run_x : readX [120, 43] 1 ((envK Tryz.prog ext0 tabT.find 100).call 142 [.ptr 13 0] (heapR (startR [120, 43]))) = true := by kernel_rfl

theorem rhoR : ∃ ρ : Rho, ρ.loops = loopsOf Tryz.prog := ⟨⟨fun _ => undef, loopsOf Tryz.prog, fun _ => (0, 0), fun _ => #[]⟩, rfl⟩

/-- What a reader's step leaves alone: all blocks but the reader's own. -/
structure Stays (g : Nat) (w w' : World) : Prop where
  os : w'.os = w.os
  tape : w'.tape = w.tape
  output : w'.output = w.output
  size : w.heap.size ≤ w'.heap.size
  block : ∀ k, k < w.heap.size → k ≠ g → w'.heap[k]? = w.heap[k]?

theorem goesR {g : Nat} {vs : List AV} {w w' : World} {σ' : Sig} {h' : H} (hG : Goes (sigR g) (heapR vs) w σ' h' w') : Stays g w w' :=
  ⟨hG.os, hG.tape, hG.output, hG.size, fun k hk hne => hG.kept k hk fun ⟨b, x, p, g1, g2, g3⟩ => hne (by
    obtain ⟨rfl, _⟩ := heapR_get g1
    have : sigR g 13 = some ⟨g, 0, 3⟩ := rfl
    rw [this] at g2
    cases g2
    exact g3.symm)⟩

theorem strOf (s : List Nat) (h : s.all (fun n => n < 256) = true) (ρ : Rho) (σ : Sig) : conc ρ σ (.str s) = some (.string (bytesOf s)) := by simp only [conc]; rw [if_pos h]

/-- The first character of x+ is read. -/
theorem next_x1 (g : Nat) (w : World) (hw : w.heap[g]? = some (.cells #[.string (bytesOf [120, 43]), .int .i64 0, .slice none 0 0] 183 (0, 0))) :
    Calls Tryz.prog 142 #[.pointer (some ⟨g, 0, none⟩)] w fun e w' => e = .returned (.tuple #[]) ∧ Stays g w w' ∧ ∃ v fz, one v = true ∧ w'.heap[g]? = some (.cells #[.string (bytesOf [120, 43]), .int .i64 1, v] 183 fz) := by
  obtain ⟨ρ, hρ⟩ := rhoR
  have hrun := next_run_x
  unfold readX at hrun
  split at hrun
  · rename_i h' hr
    have hH : HRel ρ (sigR g) (heapR (startR [120, 43])) w := hrelR hw rfl (by simp only [startR, concL]; rw [strOf [120, 43] (by decide)]; rfl)
    refine (envK_calls (ρ := ρ) follows hρ (BT.find_ok tabT_ok) ext0_ok (f := 142) (by kernel_rfl) (gokR g) (args := [.ptr 13 0]) (cs := [.pointer (some ⟨g, 0, none⟩)]) (by simp [concL, conc, sigR]) hH hr).mono ?_
    rintro e w' ⟨c, rfl, σ', hc, hH', hG⟩
    simp only [conc, concL, Option.map_some, Option.some.injEq] at hc
    subst hc
    refine ⟨rfl, goesR hG, ?_⟩
    split at hrun
    · rename_i t s' n m _ _ _ _ hg
      simp only [Bool.and_eq_true] at hrun
      obtain ⟨⟨⟨h1, h2⟩, h3⟩, h4⟩ := hrun
      have h1 := Nat.eq_of_beq_eq_true h1
      have h3 := Nat.eq_of_beq_eq_true h3
      have h2 := eq_of_beq h2
      subst h1 h2 h3
      obtain ⟨p, hp, arr, fz, q1, q2, q3, q4, ⟨cs, q5, q6⟩, q7⟩ := hH'.blk 13 _ hg
      have : σ' 13 = some ⟨g, 0, 3⟩ := hG.ext 13 _ rfl
      obtain rfl : p = ⟨g, 0, 3⟩ := Option.some.inj (hp.symm.trans this)
      obtain ⟨c0, l0, k0, k0', rfl⟩ := concL_cons q5
      obtain ⟨c1, l1, k1, k1', rfl⟩ := concL_cons k0'
      obtain ⟨c2, k2, rfl⟩ := concL_one k1'
      rw [strOf _ (by decide)] at k0
      simp only [conc, Option.some.injEq] at k0 k1
      subst k0 k1
      have hone : one c2 = true := by
        simp only [conc, Option.map_eq_some_iff] at k2
        obtain ⟨_, _, rfl⟩ := k2
        rfl
      refine ⟨c2, fz, hone, ?_⟩
      rw [q1]
      congr 2
      apply Array.ext'
      apply List.ext_getElem?
      intro i
      have q2' : arr.size = 3 := q2
      by_cases hi : i < 3
      · have := q6 i hi
        simp only [Nat.zero_add] at this
        rw [Array.getElem?_toList, this]
        rfl
      · rw [List.getElem?_eq_none (by simp; omega), List.getElem?_eq_none (by simp; omega)]
    · cases hrun
  · cases hrun

/-- A block of three cells, told by its cells. -/
theorem threeCells {arr : Array Value} {c0 c1 c2 : Value} (h : arr.size = 3) (q : ∀ i, i < 3 → arr[i]? = [c0, c1, c2][i]?) : arr = #[c0, c1, c2] := by
  apply Array.ext'
  apply List.ext_getElem?
  intro i
  by_cases hi : i < 3
  · have := q i hi
    rw [Array.getElem?_toList, this]
  · rw [List.getElem?_eq_none (by simp; omega), List.getElem?_eq_none (by simp; omega)]

/-- A piece lies in a block. -/
structure PieceAt (w : World) (b del tot : Nat) : Prop where
  ex : ∃ arr fz, w.heap[b]? = some (.cells arr 239 fz) ∧ arr.size = del + tot ∧ (∀ i, i < 4 → arr[del + i]? = [Value.int .i64 3, .int .i64 1, .int .i64 200, .string ⟨#[]⟩][i]?) ∧ (∀ i, del ≤ i → i < arr.size → ¬ (fz.1 ≤ i ∧ i < fz.2))
  tot : 4 ≤ tot

theorem next_l (g : Nat) (w : World) (hg0 : g < w.heap.size) (hw : w.heap[g]? = some (.cells #[.string (bytesOf [92, 108, 43]), .int .i64 0, .slice none 0 0] 183 (0, 0))) :
    Calls Tryz.prog 142 #[.pointer (some ⟨g, 0, none⟩)] w fun e w' => e = .returned (.tuple #[]) ∧ Stays g w w' ∧ ∃ b del tot fz, w'.heap[g]? = some (.cells #[.string (bytesOf [92, 108, 43]), .int .i64 3, .slice (some ⟨b, del, none⟩) 1 (tot / 4)] 183 fz) ∧ w.heap.size ≤ b ∧ PieceAt w' b del tot := by
  obtain ⟨ρ, hρ⟩ := rhoR
  have hrun := next_run_l
  unfold readAt at hrun
  split at hrun
  · rename_i h' hr
    have hH : HRel ρ (sigR g) (heapR (startR [92, 108, 43])) w := hrelR hw rfl (by simp only [startR, concL]; rw [strOf [92, 108, 43] (by decide)]; rfl)
    refine (envK_calls (ρ := ρ) follows hρ (BT.find_ok tabT_ok) ext0_ok (f := 142) (by kernel_rfl) (gokR g) (args := [.ptr 13 0]) (cs := [.pointer (some ⟨g, 0, none⟩)]) (by simp [concL, conc, sigR]) hH hr).mono ?_
    rintro e w' ⟨c, rfl, σ', hc, hH', hG⟩
    simp only [conc, concL, Option.map_some, Option.some.injEq] at hc
    subst hc
    refine ⟨rfl, goesR hG, ?_⟩
    split at hrun
    · rename_i t s' n m hg
      simp only [Bool.and_eq_true] at hrun
      obtain ⟨⟨⟨⟨h1, h2⟩, h3⟩, h4⟩, h5⟩ := hrun
      have h1 := Nat.eq_of_beq_eq_true h1
      have h3 := Nat.eq_of_beq_eq_true h3
      have h2 := eq_of_beq h2
      have h4 : m ≠ 13 := fun e => by subst e; simp at h4
      subst h1 h2 h3
      obtain ⟨p, hp, arr, fz, q1, q2, q3, q4, ⟨cs, q5, q6⟩, q7⟩ := hH'.blk 13 _ hg
      have hs13 : σ' 13 = some ⟨g, 0, 3⟩ := hG.ext 13 _ rfl
      obtain rfl : p = ⟨g, 0, 3⟩ := Option.some.inj (hp.symm.trans hs13)
      obtain ⟨c0, l0, k0, k0', rfl⟩ := concL_cons q5
      obtain ⟨c1, l1, k1, k1', rfl⟩ := concL_cons k0'
      obtain ⟨c2, k2, rfl⟩ := concL_one k1'
      rw [strOf _ (by decide)] at k0
      simp only [conc, Option.some.injEq, Option.map_eq_some_iff] at k0 k1 k2
      obtain ⟨pm, hpm, k2⟩ := k2
      subst k0 k1 k2
      split at h5
      · rename_i t' vs ti hgm
        simp only [Bool.and_eq_true] at h5
        obtain ⟨e1, e2⟩ := h5
        have e1 := Nat.eq_of_beq_eq_true e1
        have e2 := AV.beqL_eq e2
        subst e1 e2
        obtain ⟨p2, hp2, arr2, fz2, r1, r2, r3, r4, ⟨cs2, r5, r6⟩, r7⟩ := hH'.blk m _ hgm
        obtain rfl : p2 = pm := Option.some.inj (hp2.symm.trans hpm)
        have hcs2 : cs2 = [Value.int .i64 3, .int .i64 1, .int .i64 200, .string ⟨#[]⟩] := by
          have : concL ρ σ' [.int .i64 (.ofNat 3), .int .i64 (.ofNat 1), .int .i64 (.ofNat 200), .str []] = some [Value.int .i64 3, .int .i64 1, .int .i64 200, .string ⟨#[]⟩] := rfl
          exact Option.some.inj (r5.symm.trans this)
        subst hcs2
        have hne : p2.blk ≠ g := hH'.inj m 13 _ _ p2 ⟨g, 0, 3⟩ hgm hg hp2 hs13 h4
        refine ⟨p2.blk, p2.del, p2.tot, fz, ?_, ?_, ⟨arr2, fz2, r1, r2, fun i hi => r6 i hi, r7 rfl⟩, r3⟩
        · rw [q1]
          congr 2
          exact threeCells q2 fun i hi => by have := q6 i hi; simp only [Nat.zero_add] at this; exact this
        · rcases hG.own p2.blk ⟨m, _, p2, hgm, hp2, rfl⟩ with h | ⟨b, x, p, g1, g2, g3⟩
          · exact h
          · obtain ⟨rfl, _⟩ := heapR_get g1
            have : sigR g 13 = some ⟨g, 0, 3⟩ := rfl
            rw [this] at g2
            cases g2
            exact absurd g3.symm hne
      · cases h5
    · cases hrun
  · cases hrun


def heapQ : H := (⟨.e, 14⟩ : H).upd 13 (some (.cells 183 [.str [120, 43], .int .i64 (.ofNat 1), .sym 0] true false))
theorem heapQ_get {b : Nat} {x : ABlk} (h : heapQ.get b = some x) : b = 13 ∧ x = .cells 183 [.str [120, 43], .int .i64 (.ofNat 1), .sym 0] true false := by
  unfold heapQ at h
  rw [H.get_upd _ _ _ _ (by decide)] at h
  by_cases e : b = 13
  · rw [if_pos e] at h; cases h; exact ⟨e, rfl⟩
  · rw [if_neg e] at h; simp [H.get, T.get] at h
theorem hrelQ {ρ : Rho} {g : Nat} {w : World} {v : Value} {fz : Nat × Nat} (hv : ρ.val 0 = v) (h1 : one v = true) (hw : w.heap[g]? = some (.cells #[.string (bytesOf [120, 43]), .int .i64 1, v] 183 fz)) : HRel ρ (sigR g) heapQ w := by
  refine ⟨fun b' x hb => ?_, fun b b' x x' p p' hb hb' _ _ hne => ?_, fun b hb => ?_⟩
  · obtain ⟨rfl, rfl⟩ := heapQ_get hb
    refine ⟨⟨g, 0, 3⟩, rfl, _, _, hw, rfl, Nat.le_refl 3, fun _ => ⟨rfl, rfl⟩, ⟨[.string (bytesOf [120, 43]), .int .i64 1, v], ?_, fun i hi => by simp⟩, fun h => by cases h⟩
    simp only [concL]
    rw [strOf [120, 43] (by decide)]
    simp only [conc, hv, h1, if_true]
    rfl
  · exact absurd ((heapQ_get hb).1.trans (heapQ_get hb').1.symm) hne
  · have hb : 14 ≤ b := hb
    unfold sigR
    rw [if_neg (by omega), if_neg (by omega)]

def isU8 (n : Nat) (r : Option (AV × H)) : Bool := match r with | some (.int .u8 (.ofNat m), h) => Nat.beq m n && hasAll h [(13, .cells 183 [.str [120, 43], .int .i64 (.ofNat 1), .sym 0] true false)] | _ => false
theorem peek_run : isU8 43 ((envK Tryz.prog ext0 tabT.find 100).call 195 [.ptr 13 0] heapQ) = true := by kernel_rfl
def isTr (r : Option (AV × H)) : Bool := match r with | some (.bool true, _) => true | _ => false
theorem special_run : isTr ((envK Tryz.prog ext0 tabT.find 100).call 196 [.int .u8 (.ofNat 43)] ⟨.e, 13⟩) = true := by kernel_rfl

/-- A call that finds no block of its own leaves all that was there. -/
def sigE : Sig := fun b => if b < 13 then some ⟨b, 0, 0⟩ else none
theorem gokE : GOk Tryz.prog sigE := fun k hk => ⟨0, by rw [gsize] at hk; simp [sigE, hk]⟩
theorem hrelE (ρ : Rho) (w : World) : HRel ρ sigE ⟨.e, 13⟩ w := by
  refine ⟨fun b x hb => by simp [H.get, T.get] at hb, fun b b' x x' p p' hb => by simp [H.get, T.get] at hb, fun b hb => ?_⟩
  have hb : 13 ≤ b := hb
  unfold sigE
  rw [if_neg (by omega)]
theorem goesE {w w' : World} {σ' : Sig} {h' : H} (hG : Goes sigE ⟨.e, 13⟩ w σ' h' w') : Below w.heap.size w w' :=
  ⟨hG.os, hG.tape, hG.output, hG.size, fun k hk => hG.kept k hk fun ⟨b, x, p, g1, _⟩ => by simp [H.get, T.get] at g1⟩

theorem special_plus (w : World) : Calls Tryz.prog 196 #[.int .u8 43] w fun e w' => e = .returned (.bool true) ∧ Below w.heap.size w w' := by
  obtain ⟨ρ, hρ⟩ := rhoR
  have hrun := special_run
  unfold isTr at hrun
  split at hrun
  · rename_i h' hr
    refine (envK_calls (ρ := ρ) follows hρ (BT.find_ok tabT_ok) ext0_ok (f := 196) (by kernel_rfl) gokE (args := [.int .u8 (.ofNat 43)]) (cs := [.int .u8 43]) rfl (hrelE ρ w) hr).mono ?_
    rintro e w' ⟨c, rfl, σ', hc, hH', hG⟩
    simp only [conc, Option.some.injEq] at hc
    subst hc
    exact ⟨rfl, goesE hG⟩
  · cases hrun

theorem peek_x (g : Nat) (w : World) (v : Value) (fz : Nat × Nat) (h1 : one v = true) (hw : w.heap[g]? = some (.cells #[.string (bytesOf [120, 43]), .int .i64 1, v] 183 fz)) :
    Calls Tryz.prog 195 #[.pointer (some ⟨g, 0, none⟩)] w fun e w' => e = .returned (.int .u8 43) ∧ Stays g w w' ∧ ∃ fz', w'.heap[g]? = some (.cells #[.string (bytesOf [120, 43]), .int .i64 1, v] 183 fz') := by
  obtain ⟨ρ, hρ, hval⟩ : ∃ ρ : Rho, ρ.loops = loopsOf Tryz.prog ∧ ρ.val 0 = v := ⟨⟨fun _ => v, loopsOf Tryz.prog, fun _ => (0, 0), fun _ => #[]⟩, rfl, rfl⟩
  have hrun := peek_run
  unfold isU8 at hrun
  split at hrun
  · rename_i m h' hr
    simp only [Bool.and_eq_true] at hrun
    have hm := Nat.eq_of_beq_eq_true hrun.1
    subst hm
    have hget := hasAll_mem hrun.2 (b := 13) (List.mem_singleton.2 rfl)
    refine (envK_calls (ρ := ρ) follows hρ (BT.find_ok tabT_ok) ext0_ok (f := 195) (by kernel_rfl) (gokR g) (args := [.ptr 13 0]) (cs := [.pointer (some ⟨g, 0, none⟩)]) (by simp [concL, conc, sigR]) (hrelQ hval h1 hw) hr).mono ?_
    rintro e w' ⟨c, rfl, σ', hc, hH', hG⟩
    simp only [conc, Option.some.injEq] at hc
    subst hc
    refine ⟨rfl, ⟨hG.os, hG.tape, hG.output, hG.size, fun k hk hne => hG.kept k hk fun ⟨b, x, p, g1, g2, g3⟩ => hne ?_⟩, ?_⟩
    · obtain ⟨rfl, _⟩ := heapQ_get g1
      have : sigR g 13 = some ⟨g, 0, 3⟩ := rfl
      rw [this] at g2
      cases g2
      exact g3.symm
    · obtain ⟨p, hp, arr, fz', q1, q2, q3, q4, ⟨cs, q5, q6⟩, q7⟩ := hH'.blk 13 _ hget
      have hs13 : σ' 13 = some ⟨g, 0, 3⟩ := hG.ext 13 _ rfl
      obtain rfl : p = ⟨g, 0, 3⟩ := Option.some.inj (hp.symm.trans hs13)
      obtain ⟨c0, l0, k0, k0', rfl⟩ := concL_cons q5
      obtain ⟨c1, l1, k1, k1', rfl⟩ := concL_cons k0'
      obtain ⟨c2, k2, rfl⟩ := concL_one k1'
      rw [strOf _ (by decide)] at k0
      simp only [conc, hval, h1, if_true, Option.some.injEq] at k0 k1 k2
      subst k0 k1 k2
      refine ⟨fz', ?_⟩
      rw [q1]
      congr 2
      exact threeCells q2 fun i hi => by have := q6 i hi; simp only [Nat.zero_add] at this; exact this
  · cases hrun

set_option maxHeartbeats 2000000 in
theorem fail_x (g : Nat) (w : World) (v : Value) (fz : Nat × Nat) (hw : w.heap[g]? = some (.cells #[.string (bytesOf [120, 43]), .int .i64 1, v] 183 fz)) :
    Calls Tryz.prog 198 #[.pointer (some ⟨g, 0, none⟩)] w fun e w' => e = .panicked [{ v := .iface 179 (.agg #[.int .i64 1, .int .i64 12]), recovered := false }] ∧ w' = w := by
  have c1 : w.cell? ⟨g, 1, none⟩ = some (.int .i64 1) := by simp [World.cell?, hw]
  go_enter Tryz.func198, Tryz.ntmps198
  go_wp2
  exact ⟨rfl, rfl, rfl⟩

theorem Stays.trans {g : Nat} {a b c : World} (h : Stays g a b) (k : Stays g b c) : Stays g a c :=
  ⟨k.os.trans h.os, k.tape.trans h.tape, k.output.trans h.output, Nat.le_trans h.size k.size, fun r hr hne => (k.block r (Nat.lt_of_lt_of_le hr h.size) hne).trans (h.block r hr hne)⟩
theorem Stays.below {g : Nat} {a b : World} (h : Below a.heap.size a b) : Stays g a b := ⟨h.os, h.tape, h.output, h.size, fun r hr _ => h.block r hr⟩

set_option maxHeartbeats 4000000 in
theorem next_x2 (g : Nat) (w : World) (v : Value) (fz : Nat × Nat) (h1 : one v = true) (hg0 : g < w.heap.size) (hw : w.heap[g]? = some (.cells #[.string (bytesOf [120, 43]), .int .i64 1, v] 183 fz)) :
    Calls Tryz.prog 142 #[.pointer (some ⟨g, 0, none⟩)] w fun e w' => e = .panicked [{ v := .iface 179 (.agg #[.int .i64 1, .int .i64 12]), recovered := false }] ∧ Stays g w w' := by
  go_enter Tryz.func142, Tryz.ntmps142
  go_wp2_with (first
    | (have _ := s2; go_at_call 196; refine (special_plus _).mono ?_; rintro e w3 ⟨rfl, s1⟩; have hw3 := (s1.block g (Nat.lt_of_lt_of_le hg0 (Nat.le_trans s0.size s2.size))).trans hw2; have HB := Lib.hid ((s0.trans s2).trans (Stays.below (g := g) s1)))
    | (have _ := s0; go_at_call 195; refine (peek_x g _ v fz1 h1 hw1).mono ?_; rintro e w2 ⟨rfl, s2, fz2, hw2⟩)
    | (go_at_call 195; refine (peek_x g _ v fz h1 hw).mono ?_; rintro e w1 ⟨rfl, s0, fz1, hw1⟩))
  refine (fail_x g _ v fz2 hw3).mono ?_
  rintro e w4 ⟨rfl, rfl⟩
  go_wp2
  exact ⟨rfl, rfl, HB.out⟩
end Go.EvProp
