/-
  The text of a decimal.
-/
import Derived.Test.YtcooocbhkkmiaaaGreatDoorWalkE
set_option linter.all false
namespace Go.EvProp
open Go Go.Proofs Go.RowKit Go.Lib
set_option maxRecDepth 100000

/-- The text of a decimal. -/
def txD (neg : Bool) (n S : Nat) : List UInt8 := (if neg = true then [45] else []) ++ (decDigits (n / 10 ^ S) ++ (if 0 < S then 46 :: (decDigits (10 ^ S + n % 10 ^ S)).drop 1 else []))

theorem txSize {t : ByteArray} {n : Nat} (h : t.data.toList = decDigits n) (hn : n ≤ 1000000000000000) : t.size ≤ 1000000000000001 ∧ 1 ≤ t.size := by
  have h1 := decDigits_length n
  have h2 := nDigits_le n n (Nat.le_refl _)
  rw [← h, Array.length_toList] at h1
  have h1 : t.size = nDigits n := h1
  have h3 : 1 ≤ nDigits n := by
    by_cases h10 : n < 10
    · rw [nDigits_small h10]; omega
    · rw [nDigits_big h10]; omega
  omega
theorem drop_data (t : ByteArray) : (t.extract 1 t.size).data.toList = t.data.toList.drop 1 := Lib.extract_to_end t 1

set_option maxHeartbeats 2000000 in
theorem text4_true_pos (N : Int) (S : Nat) (w : World) (h : RightD N S) (hS0 : 0 < S) (hS : S ≤ 3) (n : Nat) (hn : n = N.natAbs) (hneg : decide (N < 0) = true) : Calls Tryz.prog 21 #[.agg #[.int .i64 N, .int .i64 S]] w fun e w' => RetTx (txD true n S) e ∧ Below w.heap.size w w' := by
  have hn1 : n ≤ 1000000000000000 := by have := h.2.2; omega
  have hp : 10 ^ S ≤ 10 ^ 3 := Nat.pow_le_pow_right (by omega) (by omega)
  have hp0 : 0 < 10 ^ S := Nat.pow_pos (by omega)
  have C1 : Hid (∀ w, Calls Tryz.prog 48 #[.agg #[.int .i64 N, .int .i64 S]] w fun e w' => RetBig true n S e ∧ Below w.heap.size w w') := fun w => by rw [← hneg, hn]; exact big_any N S w h
  have C2 : Hid (∀ w, Calls Tryz.prog 49 #[.int .i64 S] w fun e w' => RetB (10 ^ S) e ∧ Below w.heap.size w w') := fun w => power_any S w (by omega)
  clear h hn hneg
  obtain ⟨P, hP⟩ : ∃ P, Hid (P = 10 ^ S) := ⟨10 ^ S, Lib.hid rfl⟩
  unfold txD
  rw [← hP.out] at C2 hp hp0 ⊢
  have hq1 : n / P ≤ n := Nat.div_le_self _ _
  have hr1 : n % P < P := Nat.mod_lt _ hp0
  obtain ⟨q, hq⟩ : ∃ q, Hid (q = n / P) := ⟨n / P, Lib.hid rfl⟩
  obtain ⟨r, hr⟩ : ∃ r, Hid (r = n % P) := ⟨n % P, Lib.hid rfl⟩
  rw [← hq.out] at hq1 ⊢
  rw [← hr.out] at hr1
  rw [← hr.out]
  have i0 : (0 : Int) < (S : Int) := by omega
  rw [if_pos hS0]
  go_enter Tryz.func21, Tryz.ntmps21
  go_wp2_with (first
    | (have _ := hrq; go_at_call 52; (with_reducible refine (add_any t2 t3r P r _ ht2 hrq (by omega) (by omega)).mono ?_); rintro e w5 ⟨⟨t5, rfl, ht5⟩, hb5⟩; have B5 := Lib.hid (B4.out.trans (hb5.mono B4.out.size)))
    | (have _ := ht5; go_at_call 51; (with_reducible refine (text_any t5 (P + r) _ ht5 (by omega)).mono ?_); rintro e w6 ⟨⟨t6, rfl, ht6⟩, hb6⟩; have B6 := Lib.hid (B5.out.trans (hb6.mono B5.out.size)); have z6 := txSize ht6 (by omega); have z6a := z6.1; have z6b := z6.2; have z7 : (1 : Int) ≤ (t6.size : Int) := (by omega); have z8 := drop_data t6; have Z8 := Lib.hid z8; clear z8 z6; have z9 : (t6.extract 1 t6.size).size ≤ 1000000000000001 := (by simp; omega))
    | (have _ := hqq; go_at_call 51; (with_reducible refine (text_any t3q q _ hqq (by omega)).mono ?_); rintro e w4 ⟨⟨t4, rfl, ht4⟩, hb4⟩; have B4 := Lib.hid (B3.out.trans (hb4.mono B3.out.size)); have f0 : w4.cell? ⟨w1.heap.size, 0, none⟩ = some (.bool true) := ((x3.below hb4).c0); have f2 : w4.cell? ⟨w1.heap.size, 2, none⟩ = some (.int .i64 S) := ((x3.below hb4).c2); have z4 := (txSize ht4 (by omega)).1; have x4 := x3.below hb4)
    | (have _ := ht2; go_at_call 50; (with_reducible refine (quo_short t1 t2 n P _ ht1 ht2 (by omega) (by omega) (by omega)).mono ?_); rintro e w3 ⟨⟨t3q, t3r, rfl, hqq, hrq⟩, hb3⟩; have x3 := x2.below hb3; rw [← hq.out] at hqq; rw [← hr.out] at hrq; have B3 := Lib.hid (B2.out.trans (hb3.mono B2.out.size)))
    | (have _ := x1; go_at_call 49; (with_reducible refine (C2.out _).mono ?_); rintro e w2 ⟨⟨t2, rfl, ht2⟩, hb2⟩; have x2 := x1.below hb2; have l2 := x2.lt; have e1 := x2.c1; have B2 := Lib.hid ((B1.out.alloc B1.out.size (.cells #[.bool true, .string t1, .int .i64 S] 95 (0, 0))).trans (hb2.mono (by have := B1.out.size; simp; omega))))
    | (go_at_call 48; (with_reducible refine (C1.out _).mono ?_); rintro e w1 ⟨⟨t1, rfl, ht1⟩, hb1⟩; have B1 := Lib.hid (((Below.refl w.heap.size w).alloc (Nat.le_refl _) (.cells #[.int .i64 N, .int .i64 S] 39 (0, 0))).trans (hb1.mono (by simp))); have x1 := BigAt.new w1 (.bool true) (.string t1) (.int .i64 S)))
  go_ret
  exact ⟨⟨_, rfl, by simp only [cat_data, ht4, Z8.out, ht6]; simp⟩, B6.out⟩

set_option maxHeartbeats 2000000 in
theorem text4_true_zero (N : Int) (w : World) (h : RightD N ((0 : Nat) : Int))   (n : Nat) (hn : n = N.natAbs) (hneg : decide (N < 0) = true) : Calls Tryz.prog 21 #[.agg #[.int .i64 N, .int .i64 0]] w fun e w' => RetTx (txD true n 0) e ∧ Below w.heap.size w w' := by
  have hn1 : n ≤ 1000000000000000 := by have := h.2.2; omega
  have hp : 10 ^ 0 ≤ 10 ^ 3 := Nat.pow_le_pow_right (by omega) (by omega)
  have hp0 : 0 < 10 ^ 0 := Nat.pow_pos (by omega)
  have C1 : Hid (∀ w, Calls Tryz.prog 48 #[.agg #[.int .i64 N, .int .i64 0]] w fun e w' => RetBig true n 0 e ∧ Below w.heap.size w w') := fun w => by rw [← hneg, hn]; exact big_any N 0 w h
  have C2 : Hid (∀ w, Calls Tryz.prog 49 #[.int .i64 0] w fun e w' => RetB (10 ^ 0) e ∧ Below w.heap.size w w') := fun w => power_any 0 w (by omega)
  clear h hn hneg
  obtain ⟨P, hP⟩ : ∃ P, Hid (P = 10 ^ 0) := ⟨10 ^ 0, Lib.hid rfl⟩
  unfold txD
  rw [← hP.out] at C2 hp hp0 ⊢
  have hq1 : n / P ≤ n := Nat.div_le_self _ _
  have hr1 : n % P < P := Nat.mod_lt _ hp0
  obtain ⟨q, hq⟩ : ∃ q, Hid (q = n / P) := ⟨n / P, Lib.hid rfl⟩
  obtain ⟨r, hr⟩ : ∃ r, Hid (r = n % P) := ⟨n % P, Lib.hid rfl⟩
  rw [← hq.out] at hq1 ⊢
  rw [← hr.out] at hr1
  
  
  
  go_enter Tryz.func21, Tryz.ntmps21
  go_wp2_with (first
    | (have _ := hrq; go_at_call 52; (with_reducible refine (add_any t2 t3r P r _ ht2 hrq (by omega) (by omega)).mono ?_); rintro e w5 ⟨⟨t5, rfl, ht5⟩, hb5⟩; have B5 := Lib.hid (B4.out.trans (hb5.mono B4.out.size)))
    | (have _ := ht5; go_at_call 51; (with_reducible refine (text_any t5 (P + r) _ ht5 (by omega)).mono ?_); rintro e w6 ⟨⟨t6, rfl, ht6⟩, hb6⟩; have B6 := Lib.hid (B5.out.trans (hb6.mono B5.out.size)); have z6 := txSize ht6 (by omega); have z6a := z6.1; have z6b := z6.2; have z7 : (1 : Int) ≤ (t6.size : Int) := (by omega); have z8 := drop_data t6; have Z8 := Lib.hid z8; clear z8 z6; have z9 : (t6.extract 1 t6.size).size ≤ 1000000000000001 := (by simp; omega))
    | (have _ := hqq; go_at_call 51; (with_reducible refine (text_any t3q q _ hqq (by omega)).mono ?_); rintro e w4 ⟨⟨t4, rfl, ht4⟩, hb4⟩; have B4 := Lib.hid (B3.out.trans (hb4.mono B3.out.size)); have f0 : w4.cell? ⟨w1.heap.size, 0, none⟩ = some (.bool true) := ((x3.below hb4).c0); have f2 : w4.cell? ⟨w1.heap.size, 2, none⟩ = some (.int .i64 0) := ((x3.below hb4).c2); have z4 := (txSize ht4 (by omega)).1; have x4 := x3.below hb4)
    | (have _ := ht2; go_at_call 50; (with_reducible refine (quo_short t1 t2 n P _ ht1 ht2 (by omega) (by omega) (by omega)).mono ?_); rintro e w3 ⟨⟨t3q, t3r, rfl, hqq, hrq⟩, hb3⟩; have x3 := x2.below hb3; rw [← hq.out] at hqq; rw [← hr.out] at hrq; have B3 := Lib.hid (B2.out.trans (hb3.mono B2.out.size)))
    | (have _ := x1; go_at_call 49; (with_reducible refine (C2.out _).mono ?_); rintro e w2 ⟨⟨t2, rfl, ht2⟩, hb2⟩; have x2 := x1.below hb2; have l2 := x2.lt; have e1 := x2.c1; have B2 := Lib.hid ((B1.out.alloc B1.out.size (.cells #[.bool true, .string t1, .int .i64 0] 95 (0, 0))).trans (hb2.mono (by have := B1.out.size; simp; omega))))
    | (go_at_call 48; (with_reducible refine (C1.out _).mono ?_); rintro e w1 ⟨⟨t1, rfl, ht1⟩, hb1⟩; have B1 := Lib.hid (((Below.refl w.heap.size w).alloc (Nat.le_refl _) (.cells #[.int .i64 N, .int .i64 0] 39 (0, 0))).trans (hb1.mono (by simp))); have x1 := BigAt.new w1 (.bool true) (.string t1) (.int .i64 0)))
  go_ret
  exact ⟨⟨_, rfl, by first | (simp only [cat_data, ht4]; simp) | simp [ht4]⟩, B4.out⟩

set_option maxHeartbeats 2000000 in
theorem text4_false_pos (N : Int) (S : Nat) (w : World) (h : RightD N S) (hS0 : 0 < S) (hS : S ≤ 3) (n : Nat) (hn : n = N.natAbs) (hneg : decide (N < 0) = false) : Calls Tryz.prog 21 #[.agg #[.int .i64 N, .int .i64 S]] w fun e w' => RetTx (txD false n S) e ∧ Below w.heap.size w w' := by
  have hn1 : n ≤ 1000000000000000 := by have := h.2.2; omega
  have hp : 10 ^ S ≤ 10 ^ 3 := Nat.pow_le_pow_right (by omega) (by omega)
  have hp0 : 0 < 10 ^ S := Nat.pow_pos (by omega)
  have C1 : Hid (∀ w, Calls Tryz.prog 48 #[.agg #[.int .i64 N, .int .i64 S]] w fun e w' => RetBig false n S e ∧ Below w.heap.size w w') := fun w => by rw [← hneg, hn]; exact big_any N S w h
  have C2 : Hid (∀ w, Calls Tryz.prog 49 #[.int .i64 S] w fun e w' => RetB (10 ^ S) e ∧ Below w.heap.size w w') := fun w => power_any S w (by omega)
  clear h hn hneg
  obtain ⟨P, hP⟩ : ∃ P, Hid (P = 10 ^ S) := ⟨10 ^ S, Lib.hid rfl⟩
  unfold txD
  rw [← hP.out] at C2 hp hp0 ⊢
  have hq1 : n / P ≤ n := Nat.div_le_self _ _
  have hr1 : n % P < P := Nat.mod_lt _ hp0
  obtain ⟨q, hq⟩ : ∃ q, Hid (q = n / P) := ⟨n / P, Lib.hid rfl⟩
  obtain ⟨r, hr⟩ : ∃ r, Hid (r = n % P) := ⟨n % P, Lib.hid rfl⟩
  rw [← hq.out] at hq1 ⊢
  rw [← hr.out] at hr1
  rw [← hr.out]
  have i0 : (0 : Int) < (S : Int) := by omega
  rw [if_pos hS0]
  go_enter Tryz.func21, Tryz.ntmps21
  go_wp2_with (first
    | (have _ := hrq; go_at_call 52; (with_reducible refine (add_any t2 t3r P r _ ht2 hrq (by omega) (by omega)).mono ?_); rintro e w5 ⟨⟨t5, rfl, ht5⟩, hb5⟩; have B5 := Lib.hid (B4.out.trans (hb5.mono B4.out.size)))
    | (have _ := ht5; go_at_call 51; (with_reducible refine (text_any t5 (P + r) _ ht5 (by omega)).mono ?_); rintro e w6 ⟨⟨t6, rfl, ht6⟩, hb6⟩; have B6 := Lib.hid (B5.out.trans (hb6.mono B5.out.size)); have z6 := txSize ht6 (by omega); have z6a := z6.1; have z6b := z6.2; have z7 : (1 : Int) ≤ (t6.size : Int) := (by omega); have z8 := drop_data t6; have Z8 := Lib.hid z8; clear z8 z6; have z9 : (t6.extract 1 t6.size).size ≤ 1000000000000001 := (by simp; omega))
    | (have _ := hqq; go_at_call 51; (with_reducible refine (text_any t3q q _ hqq (by omega)).mono ?_); rintro e w4 ⟨⟨t4, rfl, ht4⟩, hb4⟩; have B4 := Lib.hid (B3.out.trans (hb4.mono B3.out.size)); have f0 : w4.cell? ⟨w1.heap.size, 0, none⟩ = some (.bool false) := ((x3.below hb4).c0); have f2 : w4.cell? ⟨w1.heap.size, 2, none⟩ = some (.int .i64 S) := ((x3.below hb4).c2); have z4 := (txSize ht4 (by omega)).1; have x4 := x3.below hb4)
    | (have _ := ht2; go_at_call 50; (with_reducible refine (quo_short t1 t2 n P _ ht1 ht2 (by omega) (by omega) (by omega)).mono ?_); rintro e w3 ⟨⟨t3q, t3r, rfl, hqq, hrq⟩, hb3⟩; have x3 := x2.below hb3; rw [← hq.out] at hqq; rw [← hr.out] at hrq; have B3 := Lib.hid (B2.out.trans (hb3.mono B2.out.size)))
    | (have _ := x1; go_at_call 49; (with_reducible refine (C2.out _).mono ?_); rintro e w2 ⟨⟨t2, rfl, ht2⟩, hb2⟩; have x2 := x1.below hb2; have l2 := x2.lt; have e1 := x2.c1; have B2 := Lib.hid ((B1.out.alloc B1.out.size (.cells #[.bool false, .string t1, .int .i64 S] 95 (0, 0))).trans (hb2.mono (by have := B1.out.size; simp; omega))))
    | (go_at_call 48; (with_reducible refine (C1.out _).mono ?_); rintro e w1 ⟨⟨t1, rfl, ht1⟩, hb1⟩; have B1 := Lib.hid (((Below.refl w.heap.size w).alloc (Nat.le_refl _) (.cells #[.int .i64 N, .int .i64 S] 39 (0, 0))).trans (hb1.mono (by simp))); have x1 := BigAt.new w1 (.bool false) (.string t1) (.int .i64 S)))
  go_ret
  exact ⟨⟨_, rfl, by simp only [cat_data, ht4, Z8.out, ht6]; simp⟩, B6.out⟩

set_option maxHeartbeats 2000000 in
theorem text4_false_zero (N : Int) (w : World) (h : RightD N ((0 : Nat) : Int))   (n : Nat) (hn : n = N.natAbs) (hneg : decide (N < 0) = false) : Calls Tryz.prog 21 #[.agg #[.int .i64 N, .int .i64 0]] w fun e w' => RetTx (txD false n 0) e ∧ Below w.heap.size w w' := by
  have hn1 : n ≤ 1000000000000000 := by have := h.2.2; omega
  have hp : 10 ^ 0 ≤ 10 ^ 3 := Nat.pow_le_pow_right (by omega) (by omega)
  have hp0 : 0 < 10 ^ 0 := Nat.pow_pos (by omega)
  have C1 : Hid (∀ w, Calls Tryz.prog 48 #[.agg #[.int .i64 N, .int .i64 0]] w fun e w' => RetBig false n 0 e ∧ Below w.heap.size w w') := fun w => by rw [← hneg, hn]; exact big_any N 0 w h
  have C2 : Hid (∀ w, Calls Tryz.prog 49 #[.int .i64 0] w fun e w' => RetB (10 ^ 0) e ∧ Below w.heap.size w w') := fun w => power_any 0 w (by omega)
  clear h hn hneg
  obtain ⟨P, hP⟩ : ∃ P, Hid (P = 10 ^ 0) := ⟨10 ^ 0, Lib.hid rfl⟩
  unfold txD
  rw [← hP.out] at C2 hp hp0 ⊢
  have hq1 : n / P ≤ n := Nat.div_le_self _ _
  have hr1 : n % P < P := Nat.mod_lt _ hp0
  obtain ⟨q, hq⟩ : ∃ q, Hid (q = n / P) := ⟨n / P, Lib.hid rfl⟩
  obtain ⟨r, hr⟩ : ∃ r, Hid (r = n % P) := ⟨n % P, Lib.hid rfl⟩
  rw [← hq.out] at hq1 ⊢
  rw [← hr.out] at hr1
  
  
  
  go_enter Tryz.func21, Tryz.ntmps21
  go_wp2_with (first
    | (have _ := hrq; go_at_call 52; (with_reducible refine (add_any t2 t3r P r _ ht2 hrq (by omega) (by omega)).mono ?_); rintro e w5 ⟨⟨t5, rfl, ht5⟩, hb5⟩; have B5 := Lib.hid (B4.out.trans (hb5.mono B4.out.size)))
    | (have _ := ht5; go_at_call 51; (with_reducible refine (text_any t5 (P + r) _ ht5 (by omega)).mono ?_); rintro e w6 ⟨⟨t6, rfl, ht6⟩, hb6⟩; have B6 := Lib.hid (B5.out.trans (hb6.mono B5.out.size)); have z6 := txSize ht6 (by omega); have z6a := z6.1; have z6b := z6.2; have z7 : (1 : Int) ≤ (t6.size : Int) := (by omega); have z8 := drop_data t6; have Z8 := Lib.hid z8; clear z8 z6; have z9 : (t6.extract 1 t6.size).size ≤ 1000000000000001 := (by simp; omega))
    | (have _ := hqq; go_at_call 51; (with_reducible refine (text_any t3q q _ hqq (by omega)).mono ?_); rintro e w4 ⟨⟨t4, rfl, ht4⟩, hb4⟩; have B4 := Lib.hid (B3.out.trans (hb4.mono B3.out.size)); have f0 : w4.cell? ⟨w1.heap.size, 0, none⟩ = some (.bool false) := ((x3.below hb4).c0); have f2 : w4.cell? ⟨w1.heap.size, 2, none⟩ = some (.int .i64 0) := ((x3.below hb4).c2); have z4 := (txSize ht4 (by omega)).1; have x4 := x3.below hb4)
    | (have _ := ht2; go_at_call 50; (with_reducible refine (quo_short t1 t2 n P _ ht1 ht2 (by omega) (by omega) (by omega)).mono ?_); rintro e w3 ⟨⟨t3q, t3r, rfl, hqq, hrq⟩, hb3⟩; have x3 := x2.below hb3; rw [← hq.out] at hqq; rw [← hr.out] at hrq; have B3 := Lib.hid (B2.out.trans (hb3.mono B2.out.size)))
    | (have _ := x1; go_at_call 49; (with_reducible refine (C2.out _).mono ?_); rintro e w2 ⟨⟨t2, rfl, ht2⟩, hb2⟩; have x2 := x1.below hb2; have l2 := x2.lt; have e1 := x2.c1; have B2 := Lib.hid ((B1.out.alloc B1.out.size (.cells #[.bool false, .string t1, .int .i64 0] 95 (0, 0))).trans (hb2.mono (by have := B1.out.size; simp; omega))))
    | (go_at_call 48; (with_reducible refine (C1.out _).mono ?_); rintro e w1 ⟨⟨t1, rfl, ht1⟩, hb1⟩; have B1 := Lib.hid (((Below.refl w.heap.size w).alloc (Nat.le_refl _) (.cells #[.int .i64 N, .int .i64 0] 39 (0, 0))).trans (hb1.mono (by simp))); have x1 := BigAt.new w1 (.bool false) (.string t1) (.int .i64 0)))
  go_ret
  exact ⟨⟨_, rfl, by first | (simp only [cat_data, ht4]; simp) | simp [ht4]⟩, B4.out⟩

theorem text4_any (N : Int) (S : Nat) (w : World) (h : RightD N S) (hS : S ≤ 3) : Calls Tryz.prog 21 #[.agg #[.int .i64 N, .int .i64 S]] w fun e w' => RetTx (txD (decide (N < 0)) N.natAbs S) e ∧ Below w.heap.size w w' := by
  by_cases hn : N < 0
  · have hd : decide (N < 0) = true := by simp [hn]
    rw [hd]
    by_cases h0 : 0 < S
    · exact text4_true_pos N S w h h0 hS _ rfl hd
    · obtain rfl : S = 0 := by omega
      exact text4_true_zero N w h _ rfl hd
  · have hd : decide (N < 0) = false := by simp [hn]
    rw [hd]
    by_cases h0 : 0 < S
    · exact text4_false_pos N S w h h0 hS _ rfl hd
    · obtain rfl : S = 0 := by omega
      exact text4_false_zero N w h _ rfl hd
end Go.EvProp
