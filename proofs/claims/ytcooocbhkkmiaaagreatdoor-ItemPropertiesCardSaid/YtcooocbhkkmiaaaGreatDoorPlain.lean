/-
  What the text of a decimal holds: plain lists, no program.
-/
import Derived.Test.YtcooocbhkkmiaaaGreatDoorWalkF
set_option linter.all false
namespace Go.EvProp
open Go Go.Lib

/-- The last S digits of n. -/
def fr : Nat → Nat → List UInt8
  | 0, _ => []
  | S + 1, n => fr S (n / 10) ++ [UInt8.ofNat (48 + n % 10)]

theorem dec_small {n : Nat} (h : n < 10) : decDigits n = [UInt8.ofNat (48 + n)] := by rw [decDigits, dif_pos h]
theorem dec_big {n : Nat} (h : ¬ n < 10) : decDigits n = decDigits (n / 10) ++ [UInt8.ofNat (48 + n % 10)] := by
  rw [show decDigits n = if h : n < 10 then [UInt8.ofNat (48 + n)] else decDigits (n / 10) ++ [UInt8.ofNat (48 + n % 10)] from by rw [decDigits], dif_neg h]

theorem dec_pos (n : Nat) : 1 ≤ (decDigits n).length := by
  rw [decDigits_length]
  by_cases h10 : n < 10
  · rw [nDigits_small h10]; omega
  · rw [nDigits_big h10]; omega

theorem fr_eq : ∀ (S n : Nat), (decDigits (10 ^ S + n % 10 ^ S)).drop 1 = fr S n
  | 0, n => by
    have : 10 ^ 0 + n % 10 ^ 0 = 1 := by rw [Nat.pow_zero, Nat.mod_one]
    rw [this, dec_small (by omega)]
    rfl
  | S + 1, n => by
    have hp : 0 < 10 ^ S := Nat.pow_pos (by omega)
    have e0 : 10 ^ (S + 1) = 10 * 10 ^ S := by rw [Nat.pow_succ, Nat.mul_comm]
    have e1 : n % (10 * 10 ^ S) = n % 10 + 10 * (n / 10 % 10 ^ S) := Nat.mod_mul
    have h10 : ¬ 10 ^ (S + 1) + n % 10 ^ (S + 1) < 10 := by rw [e0]; omega
    have e2 : (10 ^ (S + 1) + n % 10 ^ (S + 1)) / 10 = 10 ^ S + n / 10 % 10 ^ S := by rw [e0, e1]; omega
    have e3 : (10 ^ (S + 1) + n % 10 ^ (S + 1)) % 10 = n % 10 := by rw [e0, e1]; omega
    rw [dec_big h10, e2, e3, fr, ← fr_eq S (n / 10), List.drop_append_of_le_length (dec_pos _)]

theorem fr_zero : ∀ S, fr S 0 = List.replicate S 48
  | 0 => rfl
  | S + 1 => by
    rw [fr, Nat.zero_div, fr_zero S, List.replicate_succ']
    rfl

/-- The digits of n, filled with zeros, are the whole part and the last S digits. -/
theorem pad_eq : ∀ (S n : Nat), List.replicate (S + 1 - (decDigits n).length) 48 ++ decDigits n = decDigits (n / 10 ^ S) ++ fr S n
  | 0, n => by
    have := dec_pos n
    have e : 0 + 1 - (decDigits n).length = 0 := by omega
    rw [e, Nat.pow_zero, Nat.div_one]
    simp [fr]
  | S + 1, n => by
    have e0 : 10 ^ (S + 1) = 10 * 10 ^ S := by rw [Nat.pow_succ, Nat.mul_comm]
    have ed : n / 10 ^ (S + 1) = n / 10 / 10 ^ S := by rw [e0, Nat.div_div_eq_div_mul]
    by_cases h : n < 10
    · have e1 : n / 10 = 0 := by omega
      have e2 : n % 10 = n := by omega
      rw [ed, e1, Nat.zero_div, fr, e1, e2, fr_zero, dec_small h, dec_small (by omega)]
      simp only [List.length_singleton]
      have e3 : S + 1 + 1 - 1 = S + 1 := by omega
      rw [e3, List.replicate_succ]
      simp
    · have ih := pad_eq S (n / 10)
      rw [ed, fr, dec_big h, List.length_append, List.length_singleton]
      have e3 : S + 1 + 1 - ((decDigits (n / 10)).length + 1) = S + 1 - (decDigits (n / 10)).length := by omega
      rw [e3, ← List.append_assoc, ih, List.append_assoc]

/-- The text of a decimal, without its sign, by the whole part and the last digits. -/
def body (n S : Nat) : List UInt8 := decDigits (n / 10 ^ S) ++ (if 0 < S then 46 :: fr S n else [])
theorem txD_body (neg : Bool) (n S : Nat) : txD neg n S = (if neg = true then [45] else []) ++ body n S := by
  unfold txD body
  rw [fr_eq]

theorem fr_len : ∀ (S n : Nat), (fr S n).length = S
  | 0, _ => rfl
  | S + 1, n => by rw [fr, List.length_append, fr_len]; rfl

/-- The value of digits. -/
def valD (l : List UInt8) : Nat := l.foldl (fun a c => a * 10 + (c.toNat - 48)) 0
theorem valD_snoc (l : List UInt8) (c : UInt8) : valD (l ++ [c]) = valD l * 10 + (c.toNat - 48) := by simp [valD]
theorem dig_toNat (n : Nat) (h : n < 10) : (UInt8.ofNat (48 + n)).toNat = 48 + n := by
  simp [UInt8.toNat_ofNat]; omega
theorem valD_dec (n : Nat) : valD (decDigits n) = n := by
  induction n using Nat.strongRecOn with
  | ind n ih =>
    by_cases h : n < 10
    · rw [dec_small h, show [UInt8.ofNat (48 + n)] = [] ++ [UInt8.ofNat (48 + n)] from rfl, valD_snoc, dig_toNat n h]
      show 0 * 10 + (48 + n - 48) = n
      omega
    · rw [dec_big h, valD_snoc, ih (n / 10) (by omega), dig_toNat _ (by omega)]
      omega
theorem valD_fr : ∀ (S n : Nat), valD (decDigits (n / 10 ^ S) ++ fr S n) = n
  | 0, n => by rw [Nat.pow_zero, Nat.div_one]; simp [fr, valD_dec]
  | S + 1, n => by
    have e0 : 10 ^ (S + 1) = 10 * 10 ^ S := by rw [Nat.pow_succ, Nat.mul_comm]
    have ed : n / 10 ^ (S + 1) = n / 10 / 10 ^ S := by rw [e0, Nat.div_div_eq_div_mul]
    rw [ed, fr, ← List.append_assoc, valD_snoc, valD_fr S (n / 10), dig_toNat _ (by omega)]
    omega

/-- All are digits. -/
def isDig (c : UInt8) : Prop := 48 ≤ c.toNat ∧ c.toNat ≤ 57
theorem isDig_of (n : Nat) (h : n < 10) : isDig (UInt8.ofNat (48 + n)) := by unfold isDig; rw [dig_toNat n h]; omega
theorem dec_digs (n : Nat) : ∀ c ∈ decDigits n, isDig c := by
  induction n using Nat.strongRecOn with
  | ind n ih =>
    by_cases h : n < 10
    · rw [dec_small h]
      intro c hc
      rw [List.mem_singleton.1 hc]
      exact isDig_of n h
    · rw [dec_big h]
      intro c hc
      rcases List.mem_append.1 hc with hc | hc
      · exact ih (n / 10) (by omega) c hc
      · rw [List.mem_singleton.1 hc]
        exact isDig_of _ (by omega)
theorem fr_digs : ∀ (S n : Nat), ∀ c ∈ fr S n, isDig c
  | 0, _, c, hc => by simp [fr] at hc
  | S + 1, n, c, hc => by
    rw [fr] at hc
    rcases List.mem_append.1 hc with hc | hc
    · exact fr_digs S _ c hc
    · rw [List.mem_singleton.1 hc]
      exact isDig_of _ (by omega)

theorem dec_len_le : ∀ (k n : Nat), n < 10 ^ (k + 1) → (decDigits n).length ≤ k + 1
  | 0, n, h => by rw [dec_small (by omega)]; exact Nat.le_refl _
  | k + 1, n, h => by
    by_cases h10 : n < 10
    · rw [dec_small h10]; simp
    · rw [dec_big h10, List.length_append, List.length_singleton]
      have : 10 ^ (k + 1 + 1) = 10 * 10 ^ (k + 1) := by rw [Nat.pow_succ, Nat.mul_comm]
      have := dec_len_le k (n / 10) (by omega)
      omega

/-- A right decimal's text has at most 18 bytes. -/
theorem txD_short (neg : Bool) (n S : Nat) (hn : n ≤ 1000000000000000) (hS : S ≤ 3) : (txD neg n S).length ≤ 18 := by
  rw [txD_body, List.length_append]
  have h1 : (if neg = true then [(45 : UInt8)] else []).length ≤ 1 := by split <;> simp
  have h2 : (body n S).length ≤ 17 := by
    unfold body
    rw [List.length_append]
    have : S = 0 ∨ S = 1 ∨ S = 2 ∨ S = 3 := by omega
    rcases this with rfl | rfl | rfl | rfl
    · have := dec_len_le 15 (n / 10 ^ 0) (by rw [Nat.pow_zero, Nat.div_one]; omega)
      simp at this ⊢; omega
    · have := dec_len_le 14 (n / 10 ^ 1) (by omega)
      rw [if_pos (by omega), List.length_cons, fr_len]; omega
    · have := dec_len_le 13 (n / 10 ^ 2) (by omega)
      rw [if_pos (by omega), List.length_cons, fr_len]; omega
    · have := dec_len_le 12 (n / 10 ^ 3) (by omega)
      rw [if_pos (by omega), List.length_cons, fr_len]; omega
  omega
end Go.EvProp
