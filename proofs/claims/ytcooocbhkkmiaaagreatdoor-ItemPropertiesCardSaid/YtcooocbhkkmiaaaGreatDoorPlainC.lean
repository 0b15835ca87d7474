/-
  Two ways to compare decimals are one: plain numbers.
-/
import Derived.Test.YtcooocbhkkmiaaaGreatDoorWalkJ
set_option linter.all false
namespace Go.EvProp
open Go

theorem sg_eq (N : Int) (k : Nat) : sg (decide (N < 0)) (N.natAbs * k) = N * (k : Int) := by
  unfold sg
  by_cases h : N < 0
  · have : decide (N < 0) = true := by simp [h]
    rw [this, if_pos rfl, Int.natCast_mul]
    have : ((N.natAbs : Nat) : Int) = -N := by omega
    rw [this, Int.neg_mul, Int.neg_neg]
  · have : decide (N < 0) = false := by simp [h]
    rw [this]
    simp only [Bool.false_eq_true, if_false, Int.natCast_mul]
    have : ((N.natAbs : Nat) : Int) = N := by omega
    rw [this]

/-- Quotient and rest of a number by T. -/
theorem qr (N : Int) (T : Nat) (hT : 0 < T) : ∃ q r : Int, N.tdiv (T : Int) = q ∧ N.tmod (T : Int) = r ∧ N = (T : Int) * q + r ∧ -(T : Int) < r ∧ r < (T : Int) ∧ (0 ≤ N → 0 ≤ r ∧ 0 ≤ q) ∧ (N ≤ 0 → r ≤ 0 ∧ q ≤ 0) := by
  refine ⟨_, _, rfl, rfl, ?_, (tmod_bd N T hT).1, (tmod_bd N T hT).2, fun h => ?_, fun h => ?_⟩
  · have := Int.mul_tdiv_add_tmod N (T : Int)
    omega
  · exact ⟨Int.tmod_nonneg _ h, Int.tdiv_nonneg h (by omega)⟩
  · obtain ⟨n, rfl⟩ : ∃ n : Nat, N = -(n : Int) := ⟨N.natAbs, by omega⟩
    rw [Int.neg_tmod, Int.neg_tdiv]
    have h1 : 0 ≤ (n : Int).tmod (T : Int) := Int.tmod_nonneg _ (by omega)
    have h2 : 0 ≤ (n : Int).tdiv (T : Int) := Int.tdiv_nonneg (by omega) (by omega)
    omega

set_option maxHeartbeats 8000000 in
theorem cmp_eq (N1 N2 : Int) (S1 S2 M : Nat) (hM : M = max S1 S2) (h1 : S1 ≤ 3) (h2 : S2 ≤ 3) : sgnI (sg (decide (N1 < 0)) (N1.natAbs * 10 ^ (M - S1)) - sg (decide (N2 < 0)) (N2.natAbs * 10 ^ (M - S2))) = orI (cmpI (wholeOf N1 S1) (wholeOf N2 S2)) (cmpI (partOf N1 S1) (partOf N2 S2)) := by
  rw [sg_eq, sg_eq]
  unfold wholeOf partOf
  have hs1 : S1 = 0 ∨ S1 = 1 ∨ S1 = 2 ∨ S1 = 3 := by omega
  have hs2 : S2 = 0 ∨ S2 = 1 ∨ S2 = 2 ∨ S2 = 3 := by omega
  rcases hs1 with rfl | rfl | rfl | rfl <;> rcases hs2 with rfl | rfl | rfl | rfl
  all_goals
    rcases (show M = 0 ∨ M = 1 ∨ M = 2 ∨ M = 3 by omega) with rfl | rfl | rfl | rfl
  all_goals try (exfalso; omega)
  all_goals
    clear hM h1 h2
    obtain ⟨q1, r1, e1, e2, a1, a2, a3, a4, a5⟩ := qr N1 _ (show 0 < 10 ^ _ from Nat.pow_pos (by omega))
    obtain ⟨q2, r2, f1, f2, b1, b2, b3, b4, b5⟩ := qr N2 _ (show 0 < 10 ^ _ from Nat.pow_pos (by omega))
    rw [e1, e2, f1, f2]
    clear e1 e2 f1 f2
    simp only [Nat.reducePow, Nat.reduceSub, Nat.sub_self, Nat.sub_zero] at *
    unfold sgnI orI cmpI
    repeat' split
    all_goals omega
end Go.EvProp
