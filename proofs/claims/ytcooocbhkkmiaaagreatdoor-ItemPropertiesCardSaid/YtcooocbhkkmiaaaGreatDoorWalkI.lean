/-
  Text, comparison and order of numbers in the reference.
-/
import Derived.Test.YtcooocbhkkmiaaaGreatDoorWalkH
set_option linter.all false
namespace Go.EvProp
open Go Go.Proofs Go.RowKit Go.Lib
set_option maxRecDepth 100000

def RetTrue (e : Ending) : Prop := e = .returned (.bool true)

set_option maxHeartbeats 1000000 in
theorem strings_nil (w : World) : Calls Tryz.prog 106 #[.slice none 0 0, .slice none 0 0] w fun e w' => RetTrue e ∧ w = w' := by
  go_enter Tryz.func106, Tryz.ntmps106
  go_wp2
  refine wp_loop_rounds 1 ?_
  rw [rounds_succ]
  go_wp2
  go_ret
  exact ⟨rfl, rfl⟩

set_option maxHeartbeats 1000000 in
theorem sameRows_nil (w : World) : Calls Tryz.prog 107 #[.slice none 0 0, .slice none 0 0] w fun e w' => RetTrue e ∧ w = w' := by
  go_enter Tryz.func107, Tryz.ntmps107
  go_wp2
  refine wp_loop_rounds 1 ?_
  rw [rounds_succ]
  go_wp2
  go_ret
  exact ⟨rfl, rfl⟩

abbrev numC (N : Int) (S : Nat) : Array Value := #[.int .i64 2, .string ⟨#[]⟩, .int .i64 N, .int .i64 S, .int .i64 0, .slice none 0 0, .slice none 0 0]

set_option maxHeartbeats 2000000 in
theorem equal6_num (N : Int) (S : Nat) (w : World) : Calls Tryz.prog 47 #[.agg (numC N S), .agg (numC N S)] w fun e w' => RetTrue e ∧ Below w.heap.size w w' := by
  have C1 := Lib.hid strings_nil
  have C2 := Lib.hid sameRows_nil
  go_enter Tryz.func47, Tryz.ntmps47
  go_wp2_with (first
    | (go_at_call 106; (with_reducible refine (C1.out _).mono ?_); rintro e w1 ⟨rfl, rfl⟩)
    | (go_at_call 107; (with_reducible refine (C2.out _).mono ?_); rintro e w2 ⟨rfl, rfl⟩))
  go_ret
  exact ⟨rfl, ((Below.refl _ _).alloc (Nat.le_refl _) _).alloc (by simp) _⟩

set_option maxHeartbeats 2000000 in
theorem right6_num (N : Int) (S : Nat) (w : World) (h : RightD N S) : Calls Tryz.prog 18 #[.agg (numC N S)] w fun e w' => RetTrue e ∧ Below w.heap.size w w' := by
  have C1 := Lib.hid fun w => right4_yes N S w h
  have C2 := Lib.hid fun w => equal6_num N S w
  have T := two w (.cells (numC N S) 43 (0, 0)) (.cells (numC N S) 43 (0, 0))
  clear h
  go_enter Tryz.func18, Tryz.ntmps18
  go_wp2_with (first
    | (go_at_call 45; (with_reducible refine (C1.out _).mono ?_); rintro e w1 ⟨rfl, hb1⟩; have T1 := T.below hb1; have p0 := cellOf (i := 0) T1.p rfl; have p1 := cellOf (i := 1) T1.p rfl; have p2 := cellOf (i := 2) T1.p rfl; have p3 := cellOf (i := 3) T1.p rfl; have p4 := cellOf (i := 4) T1.p rfl; have p5 := cellOf (i := 5) T1.p rfl; have p6 := cellOf (i := 6) T1.p rfl; have q0 := cellOf (i := 0) T1.q rfl; have q1 := cellOf (i := 1) T1.q rfl; have q2 := cellOf (i := 2) T1.q rfl; have q3 := cellOf (i := 3) T1.q rfl; have q4 := cellOf (i := 4) T1.q rfl; have q5 := cellOf (i := 5) T1.q rfl; have q6 := cellOf (i := 6) T1.q rfl; have B1 := Lib.hid T1.h; clear T1 T hb1)
    | (go_at_call 47; (with_reducible refine (C2.out _).mono ?_); rintro e w2 ⟨rfl, hb2⟩; have B2 := Lib.hid (B1.out.trans (hb2.mono B1.out.size))))
  go_ret
  exact ⟨rfl, B2.out⟩

theorem decLen (n : Nat) (hn : n ≤ 1000000000000000) : (decDigits n).length ≤ 1000000000000001 := by
  have h1 := decDigits_length n
  have h2 := nDigits_le n n (Nat.le_refl _)
  omega
theorem txD_len (neg : Bool) (n S : Nat) (hn : n ≤ 1000000000000000) (hS : S ≤ 3) : (txD neg n S).length ≤ 4000000000000004 := by
  unfold txD
  have hp : 10 ^ S ≤ 10 ^ 3 := Nat.pow_le_pow_right (by omega) hS
  have hp0 : 0 < 10 ^ S := Nat.pow_pos (by omega)
  have h1 := decLen (n / 10 ^ S) (Nat.le_trans (Nat.div_le_self _ _) hn)
  have h2 := Nat.mod_lt n hp0
  have h3 := decLen (10 ^ S + n % 10 ^ S) (by omega)
  have h4 : (List.drop 1 (decDigits (10 ^ S + n % 10 ^ S))).length ≤ 1000000000000001 := by rw [List.length_drop]; omega
  rw [List.length_append, List.length_append]
  have h5 : (if neg = true then [(45 : UInt8)] else []).length ≤ 1 := by split <;> simp
  have h6 : (if 0 < S then 46 :: List.drop 1 (decDigits (10 ^ S + n % 10 ^ S)) else []).length ≤ 1000000000000002 := by
    split
    · rw [List.length_cons]; omega
    · simp
  omega

set_option maxHeartbeats 2000000 in
theorem text6_num (N : Int) (S : Nat) (w : World) (h : RightD N S) (hS : S ≤ 3) : Calls Tryz.prog 6 #[.agg (numC N S)] w fun e w' => RetTx (35 :: txD (decide (N < 0)) N.natAbs S) e ∧ Below w.heap.size w w' := by
  have C1 := Lib.hid fun w => right6_num N S w h
  have C2 := Lib.hid fun w => text4_any N S w h hS
  have hx := heapNew w (.cells (numC N S) 43 (0, 0))
  have B0 := Below.alloc (Below.refl w.heap.size w) (Nat.le_refl _) (.cells (numC N S) 43 (0, 0))
  have HX := Lib.hid hx
  have HB := Lib.hid B0
  have hz := Lib.hid (txD_len (decide (N < 0)) N.natAbs S (by have := h.2.2; omega) hS)
  clear h hx B0 hS
  go_enter Tryz.func6, Tryz.ntmps6
  go_wp2_with (first
    | (go_at_call 18; (with_reducible refine (C1.out _).mono ?_); rintro e w1 ⟨rfl, hb1⟩; have hx1 := (hb1.block _ (by simp)).trans HX.out; have p0 := cellOf (i := 0) hx1 rfl; have p1 := cellOf (i := 1) hx1 rfl; have p2 := cellOf (i := 2) hx1 rfl; have p3 := cellOf (i := 3) hx1 rfl; have p4 := cellOf (i := 4) hx1 rfl; have p5 := cellOf (i := 5) hx1 rfl; have p6 := cellOf (i := 6) hx1 rfl; have B1 := Lib.hid (HB.out.trans (hb1.mono (by simp))); clear hx1 hb1)
    | (go_at_call 21; (with_reducible refine (C2.out _).mono ?_); rintro e w2 ⟨⟨t2, rfl, ht2⟩, hb2⟩; have B2 := Lib.hid (B1.out.trans (hb2.mono B1.out.size)); have hz2 : t2.size ≤ 4000000000000004 := (by have := hz.out; rw [← ht2, Array.length_toList] at this; exact this)))
  go_ret
  exact ⟨⟨_, rfl, by rw [cat_data, ht2]; rfl⟩, B2.out⟩

set_option maxHeartbeats 2000000 in
theorem cmp6_num (N1 N2 : Int) (S1 S2 M : Nat) (w : World) (h1 : RightD N1 S1) (h2 : RightD N2 S2) (hM : M = max S1 S2) (hM3 : M ≤ 3) (D : Int) (hD : D = sg (decide (N1 < 0)) (N1.natAbs * 10 ^ (M - S1)) - sg (decide (N2 < 0)) (N2.natAbs * 10 ^ (M - S2))) : Calls Tryz.prog 25 #[.agg (numC N1 S1), .agg (numC N2 S2)] w fun e w' => RetI (sgnI D) e ∧ Below w.heap.size w w' := by
  have C1 := Lib.hid fun w => cmp4_any N1 N2 S1 S2 M w h1 h2 hM hM3 D hD
  have T := Lib.hid (two w (.cells (numC N1 S1) 43 (0, 0)) (.cells (numC N2 S2) 43 (0, 0)))
  clear h1 h2 hM hM3 hD
  go_enter Tryz.func25, Tryz.ntmps25
  go_wp2_with (first
    | (go_at_call 56; (with_reducible refine (C1.out _).mono ?_); rintro e w1 ⟨rfl, hb1⟩; have B1 := Lib.hid (T.out.below hb1).h))
  go_ret
  exact ⟨rfl, B1.out⟩

def RetBool (b : Bool) (e : Ending) : Prop := e = .returned (.bool b)

set_option maxHeartbeats 2000000 in
theorem less6_num (N1 N2 : Int) (S1 S2 M : Nat) (w : World) (h1 : RightD N1 S1) (h2 : RightD N2 S2) (hM : M = max S1 S2) (hM3 : M ≤ 3) (D : Int) (hD : D = sg (decide (N1 < 0)) (N1.natAbs * 10 ^ (M - S1)) - sg (decide (N2 < 0)) (N2.natAbs * 10 ^ (M - S2))) : Calls Tryz.prog 7 #[.agg (numC N1 S1), .agg (numC N2 S2)] w fun e w' => RetBool (decide (sgnI D < 0)) e ∧ Below w.heap.size w w' := by
  have C1 := Lib.hid fun w => right6_num N1 S1 w h1
  have C2 := Lib.hid fun w => right6_num N2 S2 w h2
  have C3 := Lib.hid fun w => cmp6_num N1 N2 S1 S2 M w h1 h2 hM hM3 D hD
  have T := Lib.hid (two w (.cells (numC N1 S1) 43 (0, 0)) (.cells (numC N2 S2) 43 (0, 0)))
  clear h1 h2 hM hM3 hD
  generalize sgnI D = d at *
  go_enter Tryz.func7, Tryz.ntmps7
  go_wp2_with (first
    | (have _ := T2; go_at_call 25; (with_reducible refine (C3.out _).mono ?_); rintro e w3 ⟨rfl, hb3⟩; have B3 := Lib.hid (T2.out.below hb3).h)
    | (have _ := T1; go_at_call 18; (with_reducible refine (C2.out _).mono ?_); rintro e w2 ⟨rfl, hb2⟩; have T2 := Lib.hid (T1.out.below hb2); have c0 := cellOf (i := 0) T2.out.p rfl; have c1 := cellOf (i := 1) T2.out.p rfl; have c2 := cellOf (i := 2) T2.out.p rfl; have c3 := cellOf (i := 3) T2.out.p rfl; have c4 := cellOf (i := 4) T2.out.p rfl; have c5 := cellOf (i := 5) T2.out.p rfl; have c6 := cellOf (i := 6) T2.out.p rfl; have d0 := cellOf (i := 0) T2.out.q rfl; have d1 := cellOf (i := 1) T2.out.q rfl; have d2 := cellOf (i := 2) T2.out.q rfl; have d3 := cellOf (i := 3) T2.out.q rfl; have d4 := cellOf (i := 4) T2.out.q rfl; have d5 := cellOf (i := 5) T2.out.q rfl; have d6 := cellOf (i := 6) T2.out.q rfl)
    | (go_at_call 18; (with_reducible refine (C1.out _).mono ?_); rintro e w1 ⟨rfl, hb1⟩; have T1 := Lib.hid (T.out.below hb1); have p0 := cellOf (i := 0) T1.out.p rfl; have p1 := cellOf (i := 1) T1.out.p rfl; have p2 := cellOf (i := 2) T1.out.p rfl; have p3 := cellOf (i := 3) T1.out.p rfl; have p4 := cellOf (i := 4) T1.out.p rfl; have p5 := cellOf (i := 5) T1.out.p rfl; have p6 := cellOf (i := 6) T1.out.p rfl; have q0 := cellOf (i := 0) T1.out.q rfl; have q1 := cellOf (i := 1) T1.out.q rfl; have q2 := cellOf (i := 2) T1.out.q rfl; have q3 := cellOf (i := 3) T1.out.q rfl; have q4 := cellOf (i := 4) T1.out.q rfl; have q5 := cellOf (i := 5) T1.out.q rfl; have q6 := cellOf (i := 6) T1.out.q rfl))
  go_ret
  exact ⟨rfl, B3.out⟩
end Go.EvProp
