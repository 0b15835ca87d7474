/-
  Contracts of functions that the law comes to, walked: third part.
-/
import Derived.Test.YtcooocbhkkmiaaaGreatDoorWalkB
import Derived.Lib.ItoaNum
set_option linter.all false
namespace Go.EvProp
open Go Go.Proofs Go.RowKit

theorem add_step {p O Y Z y z x s : Nat} (hI : O + p * x = Y + Z) (hs : s = x + y + z) : O + p * (s % 16777216) + p * 16777216 * (s / 16777216) = (Y + p * y) + (Z + p * z) := by
  have h1 : p * (s % 16777216) + p * 16777216 * (s / 16777216) = p * s := by
    rw [Nat.mul_assoc, ← Nat.mul_add]
    congr 1
    omega
  have h2 : p * s = p * x + p * y + p * z := by rw [hs, Nat.mul_add, Nat.mul_add]
  omega

theorem D_take_all {l : List Nat} {k : Nat} (h : l.length ≤ k) : D (l.take k) = D l := by rw [List.take_of_length_le h]

/-- The long way of the sum, behind the two looks at whether the numbers are small. -/
def SmallIs (a : ByteArray) (m : Nat) (p : Bool) (x : Nat) : Prop := ∀ w, Calls Tryz.prog 111 #[.string a, .int .i64 7] w fun e w' => e = .returned (.tuple #[.int .i64 x, .bool p]) ∧ w = w'

set_option maxRecDepth 100000 in
set_option maxHeartbeats 4000000 in
theorem add_long (a b : ByteArray) (m n : Nat) (p q : Bool) (x0 y0 : Nat) (w : World) (ha : IsB a m) (hb : IsB b n) (hm : m < 256 ^ 16) (hn : n < 256 ^ 16) (c1 : SmallIs a m p x0) (c2 : SmallIs b n q y0) (hpq : (p && q) = false) : Calls Tryz.prog 52 #[.string a, .string b] w fun e w' => RetB (m + n) e ∧ Below w.heap.size w w' := by
  obtain ⟨i0, hi0, hz0, hz1, hz2⟩ := info_parts infoInt
  unfold SmallIs at c1 c2
  have C1 := Lib.hid c1
  have C2 := Lib.hid c2
  have C3 := Lib.hid fun w => digits_any a m w ha hm
  have C4 := Lib.hid fun w => digits_any b n w hb hn
  clear c1 c2 ha hb
  go_enter Tryz.func52, Tryz.ntmps52
  cases p <;> cases q <;> try (cases hpq; done)
  all_goals
    go_wp2_with (first
      | (go_at_call 111; ((with_reducible refine (C1.out _).mono ?_); rintro e w' ⟨rfl, rfl⟩))
      | (go_at_call 111; ((with_reducible refine (C2.out _).mono ?_); rintro e w' ⟨rfl, rfl⟩))
      | (go_at_call 112; ((with_reducible refine (C3.out _).mono ?_); rintro e w1 ⟨⟨u, la, rfl, d1, d2, sa, d4, d5⟩, b1⟩))
      | (go_at_call 112; ((with_reducible refine (C4.out _).mono ?_); rintro e w2 ⟨⟨u2, lb, rfl, f1, f2, sb, f4, f5⟩, b2⟩)))
    have d1' := d1.below b2
    have B2 : Below w.heap.size w w2 := b1.trans (b2.mono b1.size)
    obtain ⟨aa, ca, rfl, hca, hla, hpa, hcella⟩ := d1'.open
    obtain ⟨ab, cb, rfl, hcb, hlb, hpb, hcellb⟩ := f1.open
    unfold maxLen at hca hcb
    have HB2 := Lib.hid B2
    clear d1 f1 d1' C1 C2 C3 C4 b1 b2 B2
    go_loopw [11, 12, 13] (fun o c i wr => ∃ (k x : Nat) (l : List Nat), k ≤ 7 ∧ x ≤ 1 ∧ (6 < k → x = 0) ∧ i = .int .i64 k ∧ c = .int .i64 x ∧ l.length = k ∧ Small l ∧ D l + 16777216 ^ k * x = D (la.take k) + D (lb.take k) ∧ wr.ownsRow w2.heap.size 3 1 o k (dv l) ∧ Below w2.heap.size w2 wr) (fun _ _ i _ => 8 - (intOf i).toNat)
    case atStart => exact ⟨0, 0, [], by omega, by omega, by omega, rfl, rfl, rfl, Small.nil, by simp [D], by simpa [dv] using World.ownsRow_nil w2 w2.heap.size 3 1, Below.refl _ _⟩
    case round =>
      obtain ⟨k, x, l, hk, hx, hkx, rfl, rfl, hlen, hsm, hD, hown, hbr⟩ := hrel
      have da := dg_lt sa k
      have db := dg_lt sb k
      have e16 : 16777216 ^ (k + 1) = 16777216 ^ k * 16777216 := Nat.pow_succ ..
      have key : ∀ s : Nat, s = x + dg la k + dg lb k → D (l ++ [s % 16777216]) + 16777216 ^ (k + 1) * (s / 16777216) = D (la.take (k + 1)) + D (lb.take (k + 1)) := fun s h => by
        rw [D_snoc, hlen, D_take_dg la k, D_take_dg lb k, e16]
        exact add_step hD h
      have Key := Lib.hid key
      have HDD := Lib.hid hD
      have i5 : (0 : Int) ≤ (k : Int) := by omega
      clear key e16 hD
      by_cases h1 : k < la.length
      · obtain ⟨ga, rfl, hga⟩ := hpa (by omega)
        have hc : wr.cell? ⟨ga, k, none⟩ = some (.int .i64 ((la[k]'h1 : Nat) : Int)) := by rw [hbr.cell hga]; exact hcella ga rfl k h1
        have i6 : (k : Int) < (la.length : Int) := by omega
        rw [dg_get h1] at Key da
        generalize hy : la[k]'h1 = y at *
        by_cases h2 : k < lb.length
        · obtain ⟨gb, rfl, hgb⟩ := hpb (by omega)
          have hcb2 : wr.cell? ⟨gb, k, none⟩ = some (.int .i64 ((lb[k]'h2 : Nat) : Int)) := by rw [hbr.cell hgb]; exact hcellb gb rfl k h2
          have i7 : (k : Int) < (lb.length : Int) := by omega
          rw [dg_get h2] at Key db
          generalize hz : lb[k]'h2 = z at *
          clear hy hz hcella hcellb hpa hpb
          obtain ⟨r, hr⟩ : ∃ r : Nat, Hid (r = (x + y + z) % 16777216) := ⟨_, rfl⟩
          obtain ⟨c, hc0⟩ : ∃ c : Nat, Hid (c = (x + y + z) / 16777216) := ⟨_, rfl⟩
          have s1 : ((x : Int) + (y : Int) + (z : Int) : Int) % 16777216 = (r : Int) := by have := hr.out; omega
          have s2 : ((x : Int) + (y : Int) + (z : Int) : Int) / 16777216 = (c : Int) := by have := hc0.out; omega
          have s3 : (0 : Int) ≤ (x : Int) + (y : Int) + (z : Int) := by omega
          have s4 : (x : Int) + (y : Int) + (z : Int) < 16777216 * 3 := by omega
          go_wp2_with (at_builtin; refine wpList_append_own _ rfl _ _ 22 rfl w2.heap.size 3 i0 (.int .i64 0) 1 8 Tryz.underlying22 hi0 hz0 hz1 hz2 rfl (by decide) _ _ _ rfl (hown.alloc _) ⟨wr.heap.size, 0, none⟩ 1 1 [_] rfl rfl (newsV _ _ _) (by simp [Value.oneCell']) (by unfold maxLen; omega) (by omega) (by have := hbr.size; simp; omega) ?_; intro v' w6 hown6 hgrow6 _; have HB6 : Below w2.heap.size w2 w6 := ((hbr.alloc hbr.size _).grown hgrow6 (by have := hbr.size; simp; omega) (ownB_ge hown)); have HO6 := Lib.hid hown6; clear hown6 hgrow6)
          exact ⟨⟨k + 1, c, l ++ [r], by omega, by have := hc0.out; omega, by have := hc0.out; omega, by go_num, by go_num, by simp [hlen], hsm.snoc (by have := hr.out; omega), by rw [hr.out, hc0.out]; exact Key.out _ (by omega), by rw [dv_snoc]; exact HO6.out, HB6⟩, by simp [intOf]; omega⟩
        · have i7 : ¬ (k : Int) < (lb.length : Int) := by omega
          rw [dg_out h2] at Key db
          clear hy hcella hcellb hpa hpb
          obtain ⟨r, hr⟩ : ∃ r : Nat, Hid (r = (x + y) % 16777216) := ⟨_, rfl⟩
          obtain ⟨c, hc0⟩ : ∃ c : Nat, Hid (c = (x + y) / 16777216) := ⟨_, rfl⟩
          have s1 : ((x : Int) + (y : Int) : Int) % 16777216 = (r : Int) := by have := hr.out; omega
          have s2 : ((x : Int) + (y : Int) : Int) / 16777216 = (c : Int) := by have := hc0.out; omega
          have s3 : (0 : Int) ≤ (x : Int) + (y : Int) := by omega
          have s4 : (x : Int) + (y : Int) < 16777216 * 3 := by omega
          go_wp2_with (at_builtin; refine wpList_append_own _ rfl _ _ 22 rfl w2.heap.size 3 i0 (.int .i64 0) 1 8 Tryz.underlying22 hi0 hz0 hz1 hz2 rfl (by decide) _ _ _ rfl (hown.alloc _) ⟨wr.heap.size, 0, none⟩ 1 1 [_] rfl rfl (newsV _ _ _) (by simp [Value.oneCell']) (by unfold maxLen; omega) (by omega) (by have := hbr.size; simp; omega) ?_; intro v' w6 hown6 hgrow6 _; have HB6 : Below w2.heap.size w2 w6 := ((hbr.alloc hbr.size _).grown hgrow6 (by have := hbr.size; simp; omega) (ownB_ge hown)); have HO6 := Lib.hid hown6; clear hown6 hgrow6)
          exact ⟨⟨k + 1, c, l ++ [r], by omega, by have := hc0.out; omega, by have := hc0.out; omega, by go_num, by go_num, by simp [hlen], hsm.snoc (by have := hr.out; omega), by rw [hr.out, hc0.out]; exact Key.out _ (by omega), by rw [dv_snoc]; exact HO6.out, HB6⟩, by simp [intOf]; omega⟩
      · have i6 : ¬ (k : Int) < (la.length : Int) := by omega
        rw [dg_out h1] at Key da
        by_cases h2 : k < lb.length
        · obtain ⟨gb, rfl, hgb⟩ := hpb (by omega)
          have hcb2 : wr.cell? ⟨gb, k, none⟩ = some (.int .i64 ((lb[k]'h2 : Nat) : Int)) := by rw [hbr.cell hgb]; exact hcellb gb rfl k h2
          have i7 : (k : Int) < (lb.length : Int) := by omega
          rw [dg_get h2] at Key db
          generalize hz : lb[k]'h2 = z at *
          clear hz hcella hcellb hpa hpb
          obtain ⟨r, hr⟩ : ∃ r : Nat, Hid (r = (x + z) % 16777216) := ⟨_, rfl⟩
          obtain ⟨c, hc0⟩ : ∃ c : Nat, Hid (c = (x + z) / 16777216) := ⟨_, rfl⟩
          have s1 : ((x : Int) + (z : Int) : Int) % 16777216 = (r : Int) := by have := hr.out; omega
          have s2 : ((x : Int) + (z : Int) : Int) / 16777216 = (c : Int) := by have := hc0.out; omega
          have s3 : (0 : Int) ≤ (x : Int) + (z : Int) := by omega
          have s4 : (x : Int) + (z : Int) < 16777216 * 3 := by omega
          go_wp2_with (at_builtin; refine wpList_append_own _ rfl _ _ 22 rfl w2.heap.size 3 i0 (.int .i64 0) 1 8 Tryz.underlying22 hi0 hz0 hz1 hz2 rfl (by decide) _ _ _ rfl (hown.alloc _) ⟨wr.heap.size, 0, none⟩ 1 1 [_] rfl rfl (newsV _ _ _) (by simp [Value.oneCell']) (by unfold maxLen; omega) (by omega) (by have := hbr.size; simp; omega) ?_; intro v' w6 hown6 hgrow6 _; have HB6 : Below w2.heap.size w2 w6 := ((hbr.alloc hbr.size _).grown hgrow6 (by have := hbr.size; simp; omega) (ownB_ge hown)); have HO6 := Lib.hid hown6; clear hown6 hgrow6)
          exact ⟨⟨k + 1, c, l ++ [r], by omega, by have := hc0.out; omega, by have := hc0.out; omega, by go_num, by go_num, by simp [hlen], hsm.snoc (by have := hr.out; omega), by rw [hr.out, hc0.out]; exact Key.out _ (by omega), by rw [dv_snoc]; exact HO6.out, HB6⟩, by simp [intOf]; omega⟩
        · have i7 : ¬ (k : Int) < (lb.length : Int) := by omega
          rw [dg_out h2] at Key db
          by_cases h0 : x = 0
          · have hE : Hid (D l = m + n) := by
              have := HDD.out
              rw [D_take_all (by omega), D_take_all (by omega), d2, f2, h0] at this
              show D l = m + n
              omega
            have hG : Hid (Dg wr u11 l) := Dg.of (base := w2.heap.size) (by rw [hlen]; exact hown)
            subst h0
            clear hcella hcellb hpa hpb hown Key HDD
            go_wp2_with (go_at_call 118; refine (number_any _ l _ hG.out hsm (by omega)).mono ?_; rintro e w4 ⟨⟨t, rfl, ht⟩, b4⟩)
            go_ret
            rw [hE.out] at ht
            exact ⟨⟨t, rfl, ht⟩, (HB2.out.trans (hbr.mono HB2.out.size)).trans (b4.mono (Nat.le_trans HB2.out.size hbr.size))⟩
          · obtain rfl : x = 1 := by omega
            clear hcella hcellb hpa hpb
            go_wp2_with (at_builtin; refine wpList_append_own _ rfl _ _ 22 rfl w2.heap.size 3 i0 (.int .i64 0) 1 8 Tryz.underlying22 hi0 hz0 hz1 hz2 rfl (by decide) _ _ _ rfl (hown.alloc _) ⟨wr.heap.size, 0, none⟩ 1 1 [_] rfl rfl (newsV _ _ _) (by simp [Value.oneCell']) (by unfold maxLen; omega) (by omega) (by have := hbr.size; simp; omega) ?_; intro v' w6 hown6 hgrow6 _; have HB6 : Below w2.heap.size w2 w6 := ((hbr.alloc hbr.size _).grown hgrow6 (by have := hbr.size; simp; omega) (ownB_ge hown)); have HO6 := Lib.hid hown6; clear hown6 hgrow6)
            exact ⟨⟨k + 1, 0, l ++ [1], by omega, by omega, by omega, by go_num, by go_num, by simp [hlen], hsm.snoc (by omega), Key.out 1 (by omega), by rw [dv_snoc]; exact HO6.out, HB6⟩, by simp [intOf]; omega⟩

theorem small_is (a : ByteArray) (m : Nat) (ha : IsB a m) (hm : m < 256 ^ 16) : ∃ p x, SmallIs a m p x ∧ (p = true ↔ m < 256 ^ 7) := by
  by_cases h : m < 256 ^ 7
  · exact ⟨true, m, fun w => small_yes a m 7 w ha (by omega) h, by simp [h]⟩
  · exact ⟨false, 0, fun w => small_no a m 7 w ha (by omega) (by omega) hm, by simp [h]⟩

theorem add_any (a b : ByteArray) (m n : Nat) (w : World) (ha : IsB a m) (hb : IsB b n) (hm : m < 18446744073709551616) (hn : n < 18446744073709551616) : Calls Tryz.prog 52 #[.string a, .string b] w fun e w' => RetB (m + n) e ∧ Below w.heap.size w w' := by
  have hm' : m < 256 ^ 16 := lt16 hm (by decide)
  have hn' : n < 256 ^ 16 := lt16 hn (by decide)
  by_cases h : m < 72057594037927936 ∧ n < 72057594037927936
  · exact add_short a b m n w ha hb h.1 h.2
  · obtain ⟨p, x, c1, h1⟩ := small_is a m ha hm'
    obtain ⟨q, y, c2, h2⟩ := small_is b n hb hn'
    refine add_long a b m n p q x y w ha hb hm' hn' c1 c2 ?_
    rw [p7] at h1 h2
    cases p with
    | false => rfl
    | true =>
      cases q with
      | false => rfl
      | true => exact absurd ⟨h1.1 rfl, h2.1 rfl⟩ h
end Go.EvProp

namespace Go.EvProp
open Go Go.Proofs Go.RowKit

/-- A block of n digits. -/
def Cells (w : World) (B n : Nat) (f : Nat → Nat) : Prop := B < w.heap.size ∧ ∃ cs : Array Value, w.heap[B]? = some (.cells cs 3 (0, 0)) ∧ cs.size = n ∧ ∀ i, i < n → cs[i]? = some (.int .i64 (f i : Int))

theorem Cells.cell {w : World} {B n : Nat} {f : Nat → Nat} (h : Cells w B n f) {i : Nat} (hi : i < n) : w.cell? ⟨B, i, none⟩ = some (.int .i64 (f i : Int)) := by
  obtain ⟨_, cs, h1, _, h3⟩ := h
  exact cellOf h1 (h3 i hi)
theorem Cells.free {w : World} {B n : Nat} {f : Nat → Nat} (h : Cells w B n f) (i : Nat) : w.frozen? ⟨B, i, none⟩ = false := by
  obtain ⟨_, cs, h1, _⟩ := h
  simp [World.frozen?, h1]
def upd (f : Nat → Nat) (j x : Nat) : Nat → Nat := fun i => if i = j then x else f i
theorem upd_lt {f : Nat → Nat} {M j x : Nat} (h : ∀ i, f i < M) (hx : x < M) : ∀ i, upd f j x i < M := fun i => by
  unfold upd
  split
  · exact hx
  · exact h i
theorem Cells.set {w : World} {B n : Nat} {f : Nat → Nat} (h : Cells w B n f) {j x : Nat} (hj : j < n) : Cells (w.setCell ⟨B, j, none⟩ (.int .i64 (x : Int))) B n (upd f j x) := by
  obtain ⟨h0, cs, h1, h2, h3⟩ := h
  refine ⟨by simpa using h0, cs.setIfInBounds j (.int .i64 (x : Int)), Joins.block_setCell h1 _, by simpa using h2, fun i hi => ?_⟩
  unfold upd
  by_cases e : i = j
  · subst e; simp [h2, hi]
  · rw [if_neg e, Array.getElem?_setIfInBounds_ne (Ne.symm e)]; exact h3 i hi
theorem Cells.drew {w : World} {B n : Nat} {f : Nat → Nat} (h : Cells w B n f) : Cells w.drew B n f := h
theorem Cells.zero (w : World) (n : Nat) : Cells (w.alloc (.cells (Array.replicate n (.int .i64 0)) 3)) w.heap.size n (fun _ => 0) :=
  ⟨by simp, _, heapNew w _, by simp, fun i hi => by simp [hi]⟩
theorem Cells.dg {w : World} {B n c : Nat} {f : Nat → Nat} (h : Cells w B n f) (hn : n ≤ 100) : Dg w (.slice (some ⟨B, 0, none⟩) n n) ((List.range n).map f) := by
  obtain ⟨h0, cs, h1, h2, h3⟩ := h
  have hl : ((List.range n).map f).length = n := by simp
  refine ⟨by simp [dv], .inr ⟨B, n, cs, by rw [hl], Nat.zero_le _, h1, by rw [hl]; exact Nat.le_refl _, Nat.le_trans hn (by decide), by omega, ?_⟩⟩
  rw [hl, Nat.mul_one]
  apply List.ext_getElem?
  intro i
  rw [List.getElem?_take]
  by_cases hi : i < n
  · rw [if_pos hi]
    simp [dv, hi, h3 i hi]
  · rw [if_neg hi]
    simp [dv, hi]

/-- What digits stand for. -/
def S (f : Nat → Nat) : Nat → Nat
  | 0 => 0
  | k + 1 => S f k + 16777216 ^ k * f k
theorem S_D (f : Nat → Nat) : ∀ n, D ((List.range n).map f) = S f n
  | 0 => rfl
  | n + 1 => by
    rw [List.range_succ, List.map_append, List.map_singleton, D_snoc, S_D f n]
    simp [S]
theorem S_upd (f : Nat → Nat) (j x : Nat) : ∀ k, k ≤ j → S (upd f j x) k = S f k
  | 0, _ => rfl
  | k + 1, h => by
    show S (upd f j x) k + 16777216 ^ k * upd f j x k = S f k + 16777216 ^ k * f k
    rw [S_upd f j x k (by omega)]
    unfold upd
    rw [if_neg (by omega)]

theorem mul_step {f : Nat → Nat} {i U u z s : Nat} (hI : S f (i + 1) = U * z) (hs : s = f i + u * z) : S (upd (upd f i (s % 16777216)) (i + 1) (s / 16777216)) (i + 2) = (U + 16777216 ^ i * u) * z := by
  show S (upd (upd f i (s % 16777216)) (i + 1) (s / 16777216)) (i + 1) + 16777216 ^ (i + 1) * upd (upd f i (s % 16777216)) (i + 1) (s / 16777216) (i + 1) = _
  rw [S_upd _ _ _ _ (Nat.le_refl _)]
  show S (upd f i (s % 16777216)) i + 16777216 ^ i * upd f i (s % 16777216) i + _ = _
  rw [S_upd _ _ _ _ (Nat.le_refl _)]
  have e1 : upd f i (s % 16777216) i = s % 16777216 := by simp [upd]
  have e2 : upd (upd f i (s % 16777216)) (i + 1) (s / 16777216) (i + 1) = s / 16777216 := by simp [upd]
  rw [e1, e2, Nat.pow_succ]
  have h1 : 16777216 ^ i * (s % 16777216) + 16777216 ^ i * 16777216 * (s / 16777216) = 16777216 ^ i * s := by
    rw [Nat.mul_assoc, ← Nat.mul_add]
    congr 1
    omega
  have h2 : S f i + 16777216 ^ i * f i = U * z := hI
  have h3 : 16777216 ^ i * s = 16777216 ^ i * f i + 16777216 ^ i * (u * z) := by rw [hs, Nat.mul_add]
  have h4 : 16777216 ^ i * u * z = 16777216 ^ i * (u * z) := Nat.mul_assoc ..
  rw [Nat.add_mul, ← h2]
  omega

theorem below_drewN {B : Nat} {w w' : World} (h : Below B w w') : ∀ n, Below B w (w'.drewN n)
  | 0 => h
  | n + 1 => (below_drewN h n).drew

theorem mk0 (w : World) : (Instr.makeSlice 22 (.int .i64 1) (.int .i64 1)).run Tryz.prog w = .ok (.slice (some ⟨w.heap.size, 0, none⟩) 1 1) (w.alloc (.cells (Array.replicate 1 (.int .i64 0)) 3)) := by kernel_rfl
theorem mk1 (w : World) : (Instr.makeSlice 22 (.int .i64 2) (.int .i64 2)).run Tryz.prog w = .ok (.slice (some ⟨w.heap.size, 0, none⟩) 2 2) (w.alloc (.cells (Array.replicate 2 (.int .i64 0)) 3)) := by kernel_rfl
theorem mk2 (w : World) : (Instr.makeSlice 22 (.int .i64 3) (.int .i64 3)).run Tryz.prog w = .ok (.slice (some ⟨w.heap.size, 0, none⟩) 3 3) (w.alloc (.cells (Array.replicate 3 (.int .i64 0)) 3)) := by kernel_rfl
theorem mk3 (w : World) : (Instr.makeSlice 22 (.int .i64 4) (.int .i64 4)).run Tryz.prog w = .ok (.slice (some ⟨w.heap.size, 0, none⟩) 4 4) (w.alloc (.cells (Array.replicate 4 (.int .i64 0)) 3)) := by kernel_rfl
theorem mk4 (w : World) : (Instr.makeSlice 22 (.int .i64 5) (.int .i64 5)).run Tryz.prog w = .ok (.slice (some ⟨w.heap.size, 0, none⟩) 5 5) (w.alloc (.cells (Array.replicate 5 (.int .i64 0)) 3)) := by kernel_rfl
theorem mk5 (w : World) : (Instr.makeSlice 22 (.int .i64 6) (.int .i64 6)).run Tryz.prog w = .ok (.slice (some ⟨w.heap.size, 0, none⟩) 6 6) (w.alloc (.cells (Array.replicate 6 (.int .i64 0)) 3)) := by kernel_rfl
theorem mk6 (w : World) : (Instr.makeSlice 22 (.int .i64 7) (.int .i64 7)).run Tryz.prog w = .ok (.slice (some ⟨w.heap.size, 0, none⟩) 7 7) (w.alloc (.cells (Array.replicate 7 (.int .i64 0)) 3)) := by kernel_rfl
theorem mk_any : ∀ (L : Nat) (_ : L ≤ 6) (w : World), (Instr.makeSlice 22 (.int .i64 ((L : Int) + 1)) (.int .i64 ((L : Int) + 1))).run Tryz.prog w = .ok (.slice (some ⟨w.heap.size, 0, none⟩) (L + 1) (L + 1)) (w.alloc (.cells (Array.replicate (L + 1) (.int .i64 0)) 3))
  | 0, _, w => by exact mk0 w
  | 1, _, w => by exact mk1 w
  | 2, _, w => by exact mk2 w
  | 3, _, w => by exact mk3 w
  | 4, _, w => by exact mk4 w
  | 5, _, w => by exact mk5 w
  | 6, _, w => by exact mk6 w
  | n + 7, h, _ => absurd h (by omega)

theorem one_digit {l : List Nat} {n : Nat} (hD : D l = n) (h1 : 0 < n) (hl : l.length ≤ 1) : l = [n] := by
  match l, hD, hl with
  | [], hD, _ => simp [D] at hD; omega
  | [d], hD, _ => simp [D] at hD; rw [hD]

set_option maxRecDepth 100000 in
set_option maxHeartbeats 1500000 in
theorem mul_long (a b : ByteArray) (m n : Nat) (w : World) (ha : IsB a m) (hb : IsB b n) (hm0 : 16777216 ≤ m) (hm : m < 18446744073709551616) (hn0 : 0 < n) (hn : n < 16777216) : Calls Tryz.prog 109 #[.string a, .string b] w fun e w' => RetB (m * n) e ∧ Below w.heap.size w w' := by
  have hm' : m < 256 ^ 16 := lt16 hm (by decide)
  have hn' : n < 256 ^ 16 := lt16 hn (by decide)
  have C1 : Hid (∀ w, Calls Tryz.prog 111 #[.string a, .int .i64 3] w fun e w' => e = .returned (.tuple #[.int .i64 0, .bool false]) ∧ w = w') := fun w => small_no a m 3 w ha (by omega) (Nat.le_trans (by decide) hm0) hm'
  have C2 : Hid (∀ w, Calls Tryz.prog 111 #[.string b, .int .i64 4] w fun e w' => e = .returned (.tuple #[.int .i64 n, .bool true]) ∧ w = w') := fun w => small_yes b n 4 w hb (by omega) (Nat.lt_of_lt_of_le hn (by decide))
  have C3 := Lib.hid fun w => digits_any a m w ha hm'
  have C4 := Lib.hid fun w => digits_any b n w hb hn'
  clear ha hb
  go_enter Tryz.func109, Tryz.ntmps109
  go_wp2_with (first
    | (go_at_call 111; ((with_reducible refine (C1.out _).mono ?_); rintro e w' ⟨rfl, rfl⟩))
    | (go_at_call 111; ((with_reducible refine (C2.out _).mono ?_); rintro e w' ⟨rfl, rfl⟩))
    | (go_at_call 112; ((with_reducible refine (C3.out _).mono ?_); rintro e w1 ⟨⟨u, la, rfl, d1, d2, sa, d4, d5⟩, b1⟩))
    | (go_at_call 112; ((with_reducible refine (C4.out _).mono ?_); rintro e w2 ⟨⟨u2, lb, rfl, f1, f2, sb, f4, f5⟩, b2⟩; have d1' := d1.below b2; have hlb := one_digit f2 hn0 (f5 1 (Nat.lt_of_lt_of_le hn (by decide))); have hmk := mk_any la.length d4; obtain ⟨aa, ca, rfl, hca, hla, hpa, hcella⟩ := d1'.open; obtain ⟨ab, cb, rfl, hcb, hlb2, hpb, hcellb⟩ := f1.open)))
  subst hlb
  have hgb := hpb (by simp)
  obtain ⟨gb, rfl, hgb⟩ := hgb
  have hcb1 := hcellb gb rfl 0 (by simp)
  have hcb2 : w2.cell? ⟨gb, 0, none⟩ = some (.int .i64 (n : Int)) := hcb1
  have HB2 : Hid (Below w.heap.size w w2) := b1.trans (b2.mono b1.size)
  have N0 := Cells.zero w2 (la.length + 1)
  have B0 : Below w2.heap.size w2 (w2.alloc (.cells (Array.replicate (la.length + 1) (.int .i64 0)) 3)) := (Below.refl _ _).alloc (Nat.le_refl _) _
  generalize w2.alloc (.cells (Array.replicate (la.length + 1) (.int .i64 0)) 3) = w3 at *
  obtain ⟨B, hB⟩ : ∃ B : Nat, Hid (B = w2.heap.size) := ⟨_, rfl⟩
  clear hmk d1 f1 d1' C1 C2 C3 C4 b1 b2 hpb hcellb hcb1
  unfold maxLen at hca hcb
  go_loopw [12] (fun i wr => ∃ (k : Nat) (f : Nat → Nat), k ≤ la.length ∧ i = .int .i64 k ∧ Cells wr w2.heap.size (la.length + 1) f ∧ (∀ j, f j < 16777216) ∧ S f (k + 1) = D (la.take k) * n ∧ Below w2.heap.size w2 wr) (fun i _ => la.length - (intOf i).toNat)
  case atStart => exact ⟨0, fun _ => 0, by omega, rfl, N0, fun j => (by decide : (0 : Nat) < 16777216), by simp [S, D], B0⟩
  case round =>
    obtain ⟨wo, rfl⟩ : ∃ wo : World, wo = wr := ⟨_, rfl⟩
    obtain ⟨k, f, hk, rfl, hC, hf, hS, hbr⟩ := hrel
    by_cases hlt : k < la.length
    · obtain ⟨ga, rfl, hga⟩ := hpa (by omega)
      have hc : wo.cell? ⟨ga, k, none⟩ = some (.int .i64 ((la[k]'hlt : Nat) : Int)) := by rw [hbr.cell hga]; exact hcella ga rfl k hlt
      have hcz : wo.cell? ⟨gb, 0, none⟩ = some (.int .i64 (n : Int)) := by rw [hbr.cell hgb]; exact hcb2
      have hco := hC.cell (i := k) (by omega)
      have hfr := hC.free k
      have da := sa _ (List.getElem_mem (l := la) (n := k) hlt)
      have hkf := hf k
      have hDt := D_take_succ la k hlt
      obtain ⟨y, hy⟩ : ∃ y, Hid (y = la[k]'hlt) := ⟨_, rfl⟩
      rw [← hy.out] at hc da hDt
      obtain ⟨o, ho⟩ : ∃ o, Hid (o = f k) := ⟨_, rfl⟩
      rw [← ho.out] at hco hkf
      obtain ⟨q, hq⟩ : ∃ q, Hid (q = y * n) := ⟨_, rfl⟩
      have hqb : q ≤ 281474943156225 := by
        have h1 : y * n ≤ 16777215 * 16777215 := Nat.mul_le_mul (by omega) (by omega)
        rw [hq.out]
        omega
      have hqi : (y : Int) * (n : Int) = (q : Int) := by rw [hq.out, Int.natCast_mul]
      obtain ⟨s, hs⟩ : ∃ s, Hid (s = o + q) := ⟨_, rfl⟩
      have hsb : s < 281474976710656 := by have := hs.out; omega
      have hsi : (o : Int) + (q : Int) = (s : Int) := by have := hs.out; omega
      obtain ⟨r, hr⟩ : ∃ r : Nat, Hid (r = s % 16777216) := ⟨_, rfl⟩
      obtain ⟨c, hc0⟩ : ∃ c : Nat, Hid (c = s / 16777216) := ⟨_, rfl⟩
      have s1 : (s : Int) % 16777216 = (r : Int) := by have := hr.out; omega
      have s2 : (s : Int) / 16777216 = (c : Int) := by have := hc0.out; omega
      have HS : Hid (S (upd (upd f k r) (k + 1) c) (k + 2) = D (la.take (k + 1)) * n) := by
        rw [hr.out, hc0.out, hDt]
        exact mul_step hS (by rw [hs.out, hq.out, ho.out])
      have i5 : (0 : Int) ≤ (k : Int) := by omega
      have i6 : (k : Int) < (la.length : Int) := by omega
      have i8 : (la.length : Int) ≤ 6 := by omega
      have hCw := Lib.hid hC
      clear hDt hS hC hpa hcella
      go_wp2
      go_loopw [13, 14] (fun cv j wq => (cv = .int .i64 0 ∧ j = .int .i64 0 ∧ wq = wo) ∨ (cv = .int .i64 c ∧ j = .int .i64 1 ∧ Cells wq w2.heap.size (la.length + 1) (upd f k r) ∧ Below w2.heap.size w2 wq)) (fun _ j _ => 1 - (intOf j).toNat)
      case atStart => exact .inl ⟨rfl, rfl, rfl⟩
      case round =>
        rcases hrel with ⟨rfl, rfl, rfl⟩ | ⟨rfl, rfl, hC2, hb2⟩
        · go_wp2
          go_quiet (fail)
          go_wp2
          exact ⟨.inr ⟨rfl, rfl, Cells.set (w := World.drewN _ _) hCw.out (by omega), (below_drewN hbr _).setCell (Nat.le_refl _) _⟩, by simp [intOf]⟩
        · have hfr2 := hC2.free (k + 1)
          have hco2 := hC2.cell (i := k + 1) (by omega)
          have i9 : ((k : Int) + 1).toNat = k + 1 := by omega
          have i10 : (0 : Int) ≤ (k : Int) + 1 := by omega
          have i11 : (k : Int) + 1 < (la.length : Int) + 1 := by omega
          have hCC := Lib.hid hC2
          clear hC2 hco hc hcz hfr
          go_wp2
          have hbd : ∀ j, upd (upd f k r) (k + 1) c j < 16777216 := upd_lt (upd_lt hf (by have := hr.out; omega)) (by have := hc0.out; omega)
          exact ⟨⟨k + 1, upd (upd f k r) (k + 1) c, by omega, by go_num, hCC.out.set (by omega), hbd, HS.out, hb2.setCell (Nat.le_refl _) _⟩, by simp [intOf]; omega⟩
    · obtain rfl : k = la.length := by omega
      have hG : Hid (Dg wo (.slice (some ⟨w2.heap.size, 0, none⟩) (la.length + 1) (la.length + 1)) ((List.range (la.length + 1)).map f)) := hC.dg (c := 0) (by omega)
      have hE : Hid (D ((List.range (la.length + 1)).map f) = m * n) := by
        rw [S_D, hS, List.take_of_length_le (Nat.le_refl _), d2]
        exact rfl
      have hsm : Hid (Small ((List.range (la.length + 1)).map f)) := fun d hd => by
        obtain ⟨j, _, rfl⟩ := List.mem_map.1 hd
        exact hf j
      have hlen : ((List.range (la.length + 1)).map f).length = la.length + 1 := by simp
      clear hC hS hpa hcella
      go_wp2_with (go_at_call 118; refine (number_any _ _ _ hG.out hsm.out (by omega)).mono ?_; rintro e w4 ⟨⟨t, rfl, ht⟩, b4⟩)
      go_ret
      rw [hE.out] at ht
      exact ⟨⟨t, rfl, ht⟩, (HB2.out.trans (hbr.mono HB2.out.size)).trans (b4.mono (Nat.le_trans HB2.out.size hbr.size))⟩

theorem mul_any (a b : ByteArray) (m n : Nat) (w : World) (ha : IsB a m) (hb : IsB b n) (hm : m < 18446744073709551616) (hn0 : 0 < n) (hn : n < 16777216) : Calls Tryz.prog 109 #[.string a, .string b] w fun e w' => RetB (m * n) e ∧ Below w.heap.size w w' := by
  by_cases h : m < 16777216
  · exact mul_short a b m n w ha hb h (by omega)
  · exact mul_long a b m n w ha hb (by omega) hm hn0 hn
end Go.EvProp

namespace Go.EvProp
open Go Go.Proofs Go.RowKit Go.Lib

/-- A string of these bytes comes back. -/
def RetTx (l : List UInt8) (e : Ending) : Prop := ∃ t : ByteArray, e = .returned (.string t) ∧ t.data.toList = l

def TxInv (n q : Nat) (l : List UInt8) : Prop := (0 < q → decDigits n = decDigits q ++ l) ∧ (q = 0 → decDigits n = l)
theorem TxInv.step {n q : Nat} {l : List UInt8} (h : TxInv n q l) (hq : 0 < q) : TxInv n (q / 10) (UInt8.ofNat (48 + q % 10) :: l) := by
  have h1 := h.1 hq
  rw [show decDigits q = if h : q < 10 then [UInt8.ofNat (48 + q)] else decDigits (q / 10) ++ [UInt8.ofNat (48 + q % 10)] from by rw [decDigits]] at h1
  by_cases h10 : q < 10
  · rw [dif_pos h10] at h1
    refine ⟨fun h0 => by omega, fun _ => ?_⟩
    rw [h1]
    have : q % 10 = q := by omega
    rw [this]
    rfl
  · rw [dif_neg h10] at h1
    refine ⟨fun _ => by rw [h1]; simp, fun h0 => by omega⟩

theorem nDigits_le : ∀ (k u : Nat), u ≤ k → nDigits u ≤ u + 1
  | 0, u, h => by
    obtain rfl : u = 0 := by omega
    rw [nDigits_small (by omega)]
    omega
  | k + 1, u, h => by
    by_cases h10 : u < 10
    · rw [nDigits_small h10]; omega
    · rw [nDigits_big h10]
      have := nDigits_le k (u / 10) (by omega)
      omega
theorem TxInv.len {n q : Nat} {l : List UInt8} (h : TxInv n q l) : l.length ≤ n + 1 := by
  have h1 := decDigits_length n
  have h2 := nDigits_le n n (Nat.le_refl _)
  rcases Nat.eq_zero_or_pos q with h0 | h0
  · rw [h.2 h0] at h1; omega
  · rw [h.1 h0, List.length_append] at h1; omega

theorem cat_data (a b : ByteArray) : (a ++ b).data.toList = a.data.toList ++ b.data.toList := by simp

theorem one_byte (w : World) (x : Int) : (convert 87 9 (.slice (some ⟨w.heap.size, 0, none⟩) 1 1)).run Tryz.prog (w.alloc (.cells #[.int .u8 x] 5)) = .ok (.string (strOfNums [x])) (w.alloc (.cells #[.int .u8 x] 5)) :=
  run_convert_bytes_arg (P := Tryz.prog) (w.alloc (.cells #[.int .u8 x] 5)) 87 5 Tryz.underlying87 Tryz.underlying5 w.heap.size 0 1 1 [x] rfl (fun i hi => by
    obtain rfl : i = 0 := by omega
    exact cellOf (i := 0) (heapNew w _) rfl) 9 Tryz.underlying9

set_option maxRecDepth 100000 in
set_option maxHeartbeats 1500000 in
theorem text_any (a : ByteArray) (n : Nat) (w : World) (ha : IsB a n) (hn : n < 36028797018963968) : Calls Tryz.prog 51 #[.string a] w fun e w' => RetTx (decDigits n) e ∧ Below w.heap.size w w' := by
  have h16 : n < 256 ^ 16 := lt16 hn (by decide)
  have C1 := Lib.hid fun w => canon_b a n w ha h16
  have C2 : Hid (∀ w, Calls Tryz.prog 108 #[.int .i64 10] w fun e w' => RetB 10 e ∧ Below w.heap.size w w') := fun w => of_any 10 w (by omega)
  clear ha h16
  by_cases h0 : n = 0
  · subst h0
    go_enter Tryz.func51, Tryz.ntmps51
    go_wp2_with (go_at_call 110; ((with_reducible refine (C1.out _).mono ?_); rintro e w1 ⟨⟨t, rfl, ht⟩, rfl⟩; have hz := ht.zero.2 rfl; have hz2 : ((t.size : Int) == 0) = true := (by rw [hz]; rfl)))
    go_ret
    exact ⟨⟨_, rfl, by rw [decDigits]; rfl⟩, Below.refl _ _⟩
  · go_enter Tryz.func51, Tryz.ntmps51
    go_wp2_with (go_at_call 110; ((with_reducible refine (C1.out _).mono ?_); rintro e w1 ⟨⟨t, rfl, ht⟩, rfl⟩; have hz : ¬ t.size = 0 := (fun e => h0 (ht.zero.1 e)); have hz2 : ((t.size : Int) == 0) = false := (by rw [beq_eq_false_iff_ne]; omega)))
    clear C1 hz hz2
    go_loopw [0, 3] (fun x y wr => ∃ (q : Nat) (t s : ByteArray), q ≤ n ∧ x = .string t ∧ y = .string s ∧ IsB t q ∧ TxInv n q s.data.toList ∧ Below w.heap.size w wr) (fun x _ _ => match x with | .string t => V t.data.toList | _ => 0)
    case atStart => exact ⟨n, t, _, Nat.le_refl _, rfl, rfl, ht, ⟨fun _ => by simp, fun h => absurd h h0⟩, Below.refl _ _⟩
    case round =>
      obtain ⟨q, t, s, hq, rfl, rfl, ht, hI, hbr⟩ := hrel
      have htz := Lib.hid ht.zero
      have Hht := Lib.hid ht
      have HI := Lib.hid hI
      have hsz : s.size ≤ n + 1 := by have := hI.len; rw [Array.length_toList] at this; exact this
      clear ht hI
      by_cases hq0 : 0 < q
      · have z1 : (0 : Int) < (t.size : Int) := by
          have : ¬ t.size = 0 := fun e => by have := htz.out.1 e; omega
          omega
        have hr : q % 10 < 10 := Nat.mod_lt _ (by omega)
        obtain ⟨r, hrr⟩ : ∃ r, Hid (r = q % 10) := ⟨_, rfl⟩
        rw [← hrr.out] at hr
        go_wp2_with (first
          | (go_at_call 108; ((with_reducible refine (C2.out _).mono ?_); rintro e w2 ⟨⟨t2, rfl, h2⟩, b2⟩))
          | (go_at_call 50; ((with_reducible refine (quo_short t t2 q 10 _ Hht.out h2 (by omega) (by omega) (by omega)).mono ?_); rintro e w3 ⟨⟨q3, r3, rfl, hq3, hr3⟩, b3⟩; rw [← hrr.out] at hr3))
          | (go_at_call 119; ((with_reducible refine (int_small r3 r _ hr3 (Nat.lt_of_lt_of_le hr (by decide))).mono ?_); rintro e w4 ⟨rfl, rfl⟩; have hcv := one_byte w3 (48 + (r : Int)); have hz1 : (strOfNums [48 + (r : Int)]).size = 1 := (by rw [strOfNums_size]; rfl); have hz3 : (strOfNums [48 + (r : Int)]).size + s.size ≤ 9223372036854775807 := (by rw [hz1]; omega))))
        have B3 : Below w.heap.size w w3 := (hbr.trans (b2.mono hbr.size)).trans (b3.mono (Nat.le_trans hbr.size b2.size))
        refine ⟨⟨q / 10, q3, _, by omega, rfl, rfl, hq3, ?_, B3.alloc B3.size _⟩, ?_⟩
        · have e : (strOfNums [48 + (r : Int)] ++ s).data.toList = UInt8.ofNat (48 + q % 10) :: s.data.toList := by
            rw [cat_data, strOfNums_data, ← hrr.out]
            have : (48 + (r : Int)).toNat = 48 + r := by omega
            simp [this]
          rw [e]
          exact HI.out.step hq0
        · show V q3.data.toList < V t.data.toList
          rw [hq3.1, Hht.out.1]
          omega
      · obtain rfl : q = 0 := by omega
        have z0 : t.size = 0 := htz.out.2 rfl
        have z1 : ¬ (0 : Int) < (t.size : Int) := by omega
        have z2 := Lib.hid (HI.out.2 rfl)
        go_wp2
        go_ret
        exact ⟨⟨s, rfl, z2.out.symm⟩, hbr⟩
end Go.EvProp

namespace Go.EvProp
open Go Go.Proofs Go.RowKit Go.Lib

set_option maxRecDepth 100000 in
set_option maxHeartbeats 1500000 in
theorem natural_any (n : Int) (w : World) (h0 : -9007199254740992 ≤ n) (h1 : n ≤ 9007199254740992) : Calls Tryz.prog 104 #[.int .i64 n] w fun e w' => RetB n.natAbs e ∧ Below w.heap.size w w' := by
  by_cases hn : 0 ≤ n
  · obtain ⟨m, rfl⟩ : ∃ m : Nat, n = (m : Int) := ⟨n.toNat, by omega⟩
    have C1 := Lib.hid fun w => of_any m w (by omega)
    go_enter Tryz.func104, Tryz.ntmps104
    go_wp2_with (go_at_call 108; ((with_reducible refine (C1.out _).mono ?_); rintro e w1 ⟨⟨t, rfl, ht⟩, b1⟩))
    go_ret
    exact ⟨⟨t, rfl, ht⟩, b1⟩
  · obtain ⟨m, hm⟩ : ∃ m : Nat, n = -((m : Int) + 1) := ⟨(-n - 1).toNat, by omega⟩
    have e1 : -(n + 1) = (m : Int) := by omega
    have e2 : n.natAbs = m + 1 := by omega
    have C1 := Lib.hid fun w => of_any m w (by omega)
    have C2 : Hid (∀ w, Calls Tryz.prog 108 #[.int .i64 1] w fun e w' => RetB 1 e ∧ Below w.heap.size w w') := fun w => of_any 1 w (by omega)
    rw [e2]
    clear e2
    have hn' : n < 0 := by omega
    have HM := Lib.hid hm
    clear hm
    go_enter Tryz.func104, Tryz.ntmps104
    go_wp2_with (first
      | (go_at_call 108; ((with_reducible refine (C1.out _).mono ?_); rintro e w1 ⟨⟨t, rfl, ht⟩, b1⟩))
      | (go_at_call 108; ((with_reducible refine (C2.out _).mono ?_); rintro e w2 ⟨⟨t2, rfl, ht2⟩, b2⟩))
      | (go_at_call 52; ((with_reducible refine (add_any t t2 m 1 _ ht ht2 (by have := HM.out; omega) (by omega)).mono ?_); rintro e w3 ⟨⟨t3, rfl, ht3⟩, b3⟩)))
    go_ret
    exact ⟨⟨t3, rfl, ht3⟩, (b1.trans (b2.mono b1.size)).trans (b3.mono (Nat.le_trans b1.size b2.size))⟩

/-- A decimal that is right. -/
def RightD (N S : Int) : Prop := 0 ≤ S ∧ S ≤ 6 ∧ -1000000000000000 ≤ N ∧ N ≤ 1000000000000000 ∧ (S = 0 ∨ N.tmod 10 ≠ 0)

set_option maxRecDepth 100000 in
set_option maxHeartbeats 1500000 in
theorem right4_yes (N S : Int) (w : World) (h : RightD N S) : Calls Tryz.prog 45 #[.agg #[.int .i64 N, .int .i64 S]] w fun e w' => e = .returned (.bool true) ∧ Below w.heap.size w w' := by
  obtain ⟨h1, h2, h3, h4, h5⟩ := h
  by_cases hS : S = 0
  · subst hS
    go_enter Tryz.func45, Tryz.ntmps45
    go_wp2
    go_ret
    exact ⟨rfl, (Below.refl _ _).alloc (Nat.le_refl _) _⟩
  · have hm : N.tmod 10 ≠ 0 := by
      rcases h5 with h5 | h5
      · exact absurd h5 hS
      · exact h5
    have q1 : (S == 0) = false := by rw [beq_eq_false_iff_ne]; exact hS
    have q2 : (N.tmod 10 != 0) = true := by simpa using hm
    go_enter Tryz.func45, Tryz.ntmps45
    go_wp2
    go_ret
    exact ⟨rfl, (Below.refl _ _).alloc (Nat.le_refl _) _⟩

set_option maxRecDepth 100000 in
set_option maxHeartbeats 1500000 in
theorem power_any (n : Nat) (w : World) (hn : n ≤ 6) : Calls Tryz.prog 49 #[.int .i64 n] w fun e w' => RetB (10 ^ n) e ∧ Below w.heap.size w w' := by
  have C1 : Hid (∀ w, Calls Tryz.prog 108 #[.int .i64 1] w fun e w' => RetB 1 e ∧ Below w.heap.size w w') := fun w => of_any 1 w (by omega)
  have C2 : Hid (∀ w, Calls Tryz.prog 108 #[.int .i64 10] w fun e w' => RetB 10 e ∧ Below w.heap.size w w') := fun w => of_any 10 w (by omega)
  go_enter Tryz.func49, Tryz.ntmps49
  go_wp2_with (go_at_call 108; ((with_reducible refine (C1.out _).mono ?_); rintro e w1 ⟨⟨t, rfl, ht⟩, b1⟩))
  clear C1
  go_loopw [3, 4] (fun x i wr => ∃ (k : Nat) (t : ByteArray), k ≤ n ∧ i = .int .i64 k ∧ x = .string t ∧ IsB t (10 ^ k) ∧ Below w.heap.size w wr) (fun _ i _ => n - (RowKit.intOf i).toNat)
  case atStart => exact ⟨0, t, by omega, rfl, rfl, ht, b1⟩
  case round =>
    obtain ⟨k, t, hk, rfl, rfl, ht, hbr⟩ := hrel
    have Ht := Lib.hid ht
    clear ht
    by_cases hlt : k < n
    · have i1 : (k : Int) < (n : Int) := by omega
      have hp : 10 ^ k ≤ 10 ^ 6 := Nat.pow_le_pow_right (by omega) (by omega)
      go_wp2_with (first
        | (go_at_call 108; ((with_reducible refine (C2.out _).mono ?_); rintro e w2 ⟨⟨t2, rfl, h2⟩, b2⟩))
        | (go_at_call 109; ((with_reducible refine (mul_any t t2 (10 ^ k) 10 _ Ht.out h2 (by omega) (by omega) (by omega)).mono ?_); rintro e w3 ⟨⟨t3, rfl, h3⟩, b3⟩)))
      exact ⟨⟨k + 1, t3, by omega, by go_num, rfl, by rw [Nat.pow_succ]; exact h3, (hbr.trans (b2.mono hbr.size)).trans (b3.mono (Nat.le_trans hbr.size b2.size))⟩, by simp [RowKit.intOf]; omega⟩
    · obtain rfl : k = n := by omega
      go_wp2
      go_ret
      exact ⟨⟨t, rfl, Ht.out⟩, hbr⟩
end Go.EvProp
