/-
  The counts of a grammar stay under a table: plain numbers, no program.
-/
import Derived.Test.YthbmgkbfmddhnaaGreatDoorWalkB
set_option linter.all false
namespace Go.EvNil

/-- A rule: head, operator, parameter, arguments. -/
structure Rl where
  h : Nat
  op : ByteArray
  pa : ByteArray
  args : List Nat

def one1 (i : Nat) : Nat := if i = 1 then 1 else 0

/-- The ways with the further arguments l, over the ways W. -/
def convL (U : Nat → Nat → Nat) : List Nat → (Nat → Nat) → Nat → Nat
  | [], W => W
  | a :: l, W => convL U l (fun i => sumC W (U a) 6 i 10)

/-- The ways of the rules of the head s, together. -/
def sumR (U : Nat → Nat → Nat) (s i : Nat) : List Rl → Nat
  | [] => 0
  | r :: l => (if r.h = s then convL U r.args one1 i else 0) + sumR U s i l

/-- All numbers on the way are small enough. -/
def numP (U : Nat → Nat → Nat) : List Nat → (Nat → Nat) → Prop
  | [], W => ∀ i, i < 10 → W i < 281474976710656
  | a :: l, W => (∀ i, i < 10 → W i < 16777216) ∧ (∀ i, i < 10 → sumC W (U a) 6 i 10 < 281474976710656) ∧ numP U l (fun i => sumC W (U a) 6 i 10)

structure Need (U : Nat → Nat → Nat) (rs : List Rl) : Prop where
  sum : ∀ s i, i < 6 → sumR U s i rs ≤ U s i
  num : ∀ r ∈ rs, numP U r.args one1
  lt : ∀ s i, U s i < 2147483648

theorem sumR_sub {U : Nat → Nat → Nat} {s i : Nat} {a b : List Rl} (h : a.Sublist b) : sumR U s i a ≤ sumR U s i b := by
  induction h with
  | slnil => exact Nat.le_refl _
  | cons x _ ih => exact Nat.le_trans ih (Nat.le_add_left _ _)
  | cons_cons x _ ih => exact Nat.add_le_add_left ih _

theorem Need.sub {U : Nat → Nat → Nat} {a b : List Rl} (h : a.Sublist b) (n : Need U b) : Need U a :=
  ⟨fun s i hi => Nat.le_trans (sumR_sub h) (n.sum s i hi), fun r hr => n.num r (h.subset hr), n.lt⟩

theorem rowC_mono {W W' C C' : Nat → Nat} (hW : ∀ i, i < 10 → W i ≤ W' i) {n n' i a : Nat} (hC : ∀ i, i < n → C i ≤ C' i) (hn : n ≤ n') (ha : a < 10) : rowC W C n i a ≤ rowC W' C' n' i a := by
  unfold rowC
  by_cases h : a < i ∧ i - a < n
  · rw [if_pos h, if_pos ⟨h.1, Nat.lt_of_lt_of_le h.2 hn⟩]
    exact Nat.mul_le_mul (hW a ha) (hC _ h.2)
  · rw [if_neg h]; exact Nat.zero_le _
theorem sumC_mono {W W' C C' : Nat → Nat} (hW : ∀ i, i < 10 → W i ≤ W' i) {n n' i : Nat} (hC : ∀ i, i < n → C i ≤ C' i) (hn : n ≤ n') : ∀ k, k ≤ 10 → sumC W C n i k ≤ sumC W' C' n' i k
  | 0, _ => Nat.le_refl _
  | k + 1, h => Nat.add_le_add (sumC_mono hW hC hn k (by omega)) (rowC_mono hW hC hn (by omega))

theorem convL_snoc (U : Nat → Nat → Nat) : ∀ (l : List Nat) (a : Nat) (W : Nat → Nat), convL U (l ++ [a]) W = fun i => sumC (convL U l W) (U a) 6 i 10
  | [], a, W => rfl
  | b :: l, a, W => convL_snoc U l a _

theorem numP_at (U : Nat → Nat → Nat) : ∀ (l : List Nat) (a : Nat) (m : List Nat) (W : Nat → Nat), numP U (l ++ a :: m) W → (∀ i, i < 10 → convL U l W i < 16777216) ∧ (∀ i, i < 10 → sumC (convL U l W) (U a) 6 i 10 < 281474976710656)
  | [], a, m, W, h => ⟨h.1, h.2.1⟩
  | b :: l, a, m, W, h => numP_at U l a m _ h.2.2
theorem numP_end (U : Nat → Nat → Nat) : ∀ (l : List Nat) (W : Nat → Nat), numP U l W → ∀ i, i < 10 → convL U l W i < 281474976710656
  | [], W, h => h
  | b :: l, W, h => numP_end U l _ h.2.2

/-- What is in the place i of the symbol s when the sizes before z are done, and of the size z the rules before k. -/
def cntB (U : Nat → Nat → Nat) (rs : List Rl) (z k s i : Nat) : Nat := if i < z then U s i else if i = z then sumR U s i (rs.take k) else 0

theorem cntB_le {U : Nat → Nat → Nat} {rs : List Rl} (n : Need U rs) (z k s i : Nat) (hi : i < 6) : cntB U rs z k s i ≤ U s i := by
  unfold cntB
  split
  · exact Nat.le_refl _
  · split
    · exact Nat.le_trans (sumR_sub (List.take_sublist k rs)) (n.sum s i hi)
    · exact Nat.zero_le _
theorem cntB_next {U : Nat → Nat → Nat} {rs : List Rl} (n : Need U rs) (z s i : Nat) (hi : i < 6) : cntB U rs z rs.length s i ≤ cntB U rs (z + 1) 0 s i := by
  by_cases h : i < z + 1
  · have e : cntB U rs (z + 1) 0 s i = U s i := by unfold cntB; rw [if_pos h]
    rw [e]
    exact cntB_le n z _ s i hi
  · unfold cntB
    rw [if_neg (by omega), if_neg (by omega)]
    exact Nat.zero_le _
theorem sumR_snoc (U : Nat → Nat → Nat) (s i : Nat) (r : Rl) : ∀ l : List Rl, sumR U s i (l ++ [r]) = sumR U s i l + (if r.h = s then convL U r.args one1 i else 0)
  | [] => by simp [sumR]
  | q :: l => by simp only [List.cons_append, sumR, sumR_snoc U s i r l]; omega
theorem cntB_step {U : Nat → Nat → Nat} {rs : List Rl} (z k s i : Nat) (hk : k < rs.length) : cntB U rs z (k + 1) s i = cntB U rs z k s i + (if i = z ∧ rs[k].h = s then convL U rs[k].args one1 i else 0) := by
  unfold cntB
  by_cases h : i < z
  · rw [if_pos h, if_pos h, if_neg (by omega)]; rfl
  · rw [if_neg h, if_neg h]
    by_cases e : i = z
    · rw [if_pos e, if_pos e, List.take_succ_eq_append_getElem hk, sumR_snoc]
      by_cases e2 : rs[k].h = s
      · rw [if_pos e2, if_pos ⟨e, e2⟩]
      · rw [if_neg e2, if_neg fun q => e2 q.2]
    · rw [if_neg e, if_neg e, if_neg fun q => e q.1]
theorem cntB_start (U : Nat → Nat → Nat) (rs : List Rl) (s i : Nat) : 0 ≤ cntB U rs 1 0 s i := Nat.zero_le _

/-! ### The check -/
def tabU (t : List (List Nat)) (s i : Nat) : Nat := (t.getD s []).getD i 0
def all10 (p : Nat → Bool) : Bool := (List.range 10).all p
theorem all10_at {p : Nat → Bool} (h : all10 p = true) {i : Nat} (hi : i < 10) : p i = true := List.all_eq_true.1 h i (List.mem_range.2 hi)
def numB (U : Nat → Nat → Nat) : List Nat → (Nat → Nat) → Bool
  | [], W => all10 fun i => Nat.blt (W i) 281474976710656
  | a :: l, W => all10 (fun i => Nat.blt (W i) 16777216) && all10 (fun i => Nat.blt (sumC W (U a) 6 i 10) 281474976710656) && numB U l (fun i => sumC W (U a) 6 i 10)
theorem numB_ok (U : Nat → Nat → Nat) : ∀ (l : List Nat) (W : Nat → Nat), numB U l W = true → numP U l W
  | [], W, h => fun i hi => by simpa using all10_at h hi
  | a :: l, W, h => by
    simp only [numB, Bool.and_eq_true] at h
    exact ⟨fun i hi => by simpa using all10_at h.1.1 hi, fun i hi => by simpa using all10_at h.1.2 hi, numB_ok U l _ h.2⟩
def needB (t : List (List Nat)) (rs : List Rl) : Bool :=
  (List.range t.length).all (fun s => (List.range 6).all fun i => Nat.ble (sumR (tabU t) s i rs) (tabU t s i)) && rs.all (fun r => Nat.blt r.h t.length && numB (tabU t) r.args one1) && t.all (fun l => l.all fun n => Nat.blt n 2147483648)
theorem sumR_none {U : Nat → Nat → Nat} {s i : Nat} : ∀ {rs : List Rl}, (∀ r ∈ rs, r.h ≠ s) → sumR U s i rs = 0
  | [], _ => rfl
  | r :: l, h => by
    simp only [sumR]
    rw [if_neg (h r (List.mem_cons_self ..)), sumR_none fun q hq => h q (List.mem_cons_of_mem _ hq)]
theorem tabU_lt {t : List (List Nat)} (h : t.all (fun l => l.all fun n => Nat.blt n 2147483648) = true) (s i : Nat) : tabU t s i < 2147483648 := by
  unfold tabU
  rw [List.getD_eq_getElem?_getD, List.getD_eq_getElem?_getD]
  cases hs : t[s]? with
  | none => simp
  | some l =>
    simp only [Option.getD_some]
    cases hi : l[i]? with
    | none => simp
    | some n =>
      have := List.all_eq_true.1 (List.all_eq_true.1 h l (List.mem_of_getElem? hs)) n (List.mem_of_getElem? hi)
      simpa using this
theorem needB_ok {t : List (List Nat)} {rs : List Rl} (h : needB t rs = true) : Need (tabU t) rs := by
  simp only [needB, Bool.and_eq_true] at h
  obtain ⟨⟨h1, h2⟩, h3⟩ := h
  refine ⟨fun s i hi => ?_, fun r hr => ?_, tabU_lt h3⟩
  · by_cases hs : s < t.length
    · have := List.all_eq_true.1 (List.all_eq_true.1 h1 s (List.mem_range.2 hs)) i (List.mem_range.2 hi)
      exact Nat.le_of_ble_eq_true this
    · rw [sumR_none fun r hr e => ?_]
      · exact Nat.zero_le _
      · have := List.all_eq_true.1 h2 r hr
        simp only [Bool.and_eq_true] at this
        have h4 : r.h < t.length := by simpa using this.1
        omega
  · have := List.all_eq_true.1 h2 r hr
    simp only [Bool.and_eq_true] at this
    exact numB_ok _ _ _ this.2
end Go.EvNil
