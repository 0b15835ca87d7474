/-
  Contracts of functions that the law comes to, walked: decimals, second part.
-/
import Derived.Test.YtcooocbhkkmiaaaGreatDoorWalkD
set_option linter.all false
namespace Go.EvProp
open Go Go.Proofs Go.RowKit Go.Lib
set_option maxRecDepth 100000
theorem retC_lt {X Y : Nat} {e : Ending} (h : RetC X Y e) (hl : X < Y) : e = .returned (.int .i64 (-1)) := by
  unfold RetC cmpN at h; simpa [hl] using h
theorem retC_ge {X Y : Nat} {e : Ending} (h : RetC X Y e) (hl : Y ≤ X) : ∃ c : Int, e = .returned (.int .i64 c) ∧ 0 ≤ c ∧ c ≤ 1 := by
  unfold RetC cmpN at h
  refine ⟨_, h, ?_⟩
  have : ¬ X < Y := by omega
  rw [if_neg this]
  split <;> omega
theorem isB_dec {t : ByteArray} {n : Nat} (h : IsB t n) (b : Bool) (hb : decide (0 < n) = b) : decide (0 < t.size) = b := by
  rw [← hb, decide_eq_decide]
  have := h.zero
  omega
theorem isB_pos {t : ByteArray} {n : Nat} (h : IsB t n) (hn : 0 < n) : 0 < t.size := by
  have : ¬ t.size = 0 := fun e => by have := h.zero.1 e; omega
  omega

set_option maxHeartbeats 2000000 in
theorem plus_less_true (a b : ByteArray) (m n s u M : Nat) (w : World) (ha : IsB a m) (hb : IsB b n) (hm : m ≤ 1000000000000000) (hn : n ≤ 1000000000000000) (hM : M = max s u) (hM3 : M ≤ 3) (X Y : Nat) (hX : X = m * 10 ^ (M - s)) (hY : Y = n * 10 ^ (M - u)) (hX1 : X ≤ 1000000000000000000) (hY1 : Y ≤ 1000000000000000000) (hlt : X < Y) : Calls Tryz.prog 123 #[.agg #[.bool true, .string a, .int .i64 s], .agg #[.bool false, .string b, .int .i64 u]] w fun e w' => RetBig false (Y - X) M e ∧ Below w.heap.size w w' := by
  have hmax : max (s : Int) (u : Int) = (M : Int) := by omega
  have C1 : Hid (∀ w, Calls Tryz.prog 172 #[.agg #[.bool true, .string a, .int .i64 s], .int .i64 M] w fun e w' => RetBig true X M e ∧ Below w.heap.size w w') := fun w => by rw [hX]; exact wider_any true a m s M w ha hm (by omega) hM3
  have C2 : Hid (∀ w, Calls Tryz.prog 172 #[.agg #[.bool false, .string b, .int .i64 u], .int .i64 M] w fun e w' => RetBig false Y M e ∧ Below w.heap.size w w') := fun w => by rw [hY]; exact wider_any false b n u M w hb hn (by omega) hM3
  have T := Lib.hid (three w (.bool true) (.string a) (.int .i64 s) (.bool false) (.string b) (.int .i64 u) (.bool false) (.string ⟨#[]⟩) (.int .i64 0))
  have H16 : Hid (X < 256 ^ 16 ∧ Y < 256 ^ 16) := ⟨lt16 (Nat.lt_succ_of_le hX1) (by decide), lt16 (Nat.lt_succ_of_le hY1) (by decide)⟩
  have HL := Lib.hid hlt
  clear ha hb hX hY hM hlt hm hn hX1 hY1 hM3
  go_enter Tryz.func123, Tryz.ntmps123
  go_wp2_with (first
    | (have _ := c0; go_at_call 174; (with_reducible refine (sub_any t2 t1 Y X _ ht2 ht1 H16.out.2 (Nat.le_of_lt HL.out)).mono ?_); rintro e w5 ⟨⟨t, rfl, ht⟩, hb5⟩; have f0 : w5.cell? ⟨bx, 0, none⟩ = some (.bool false) := ((hb5.cell (by simp; omega)).trans (by simp [go_sem, *])); have f2 : w5.cell? ⟨bx, 2, none⟩ = some (.int .i64 M) := ((hb5.cell (by simp; omega)).trans (by simp [go_sem, *])); have r0 : w5.cell? ⟨b3, 0, none⟩ = some (.bool false) := ((hb5.cell (by simp; omega)).trans (by simp [go_sem, *])); have r1 : w5.cell? ⟨b3, 1, none⟩ = some (.string ⟨#[]⟩) := ((hb5.cell (by simp; omega)).trans (by simp [go_sem, *])); have r2 : w5.cell? ⟨b3, 2, none⟩ = some (.int .i64 0) := ((hb5.cell (by simp; omega)).trans (by simp [go_sem, *])); have z0 : w5.frozen? ⟨b3, 0, none⟩ = false := ((hb5.frozen (by simp; omega)).trans (by simp [go_sem, *])); have z1 : w5.frozen? ⟨b3, 1, none⟩ = false := ((hb5.frozen (by simp; omega)).trans (by simp [go_sem, *])); have z2 : w5.frozen? ⟨b3, 2, none⟩ = false := ((hb5.frozen (by simp; omega)).trans (by simp [go_sem, *])); have gx : w.heap.size ≤ bx := (by have := g3.out; omega); have gb : w.heap.size ≤ bb := (by omega); have B5 : Hid (Below w.heap.size w w5) := ((((((((T3.out.h.setCell (p := ⟨bx, 0, none⟩) gx _).setCell (p := ⟨bx, 1, none⟩) gx _).setCell (p := ⟨bx, 2, none⟩) gx _).setCell (p := ⟨bb, 0, none⟩) gb _).setCell (p := ⟨bb, 1, none⟩) gb _).setCell (p := ⟨bb, 2, none⟩) gb _).alloc (by simp; omega) _).trans (hb5.mono (by simp; omega))); have hpos : (0 : Int) < (t.size : Int) := (by have := isB_pos ht (by have := HL.out; omega); omega))
    | (have _ := ht1; go_at_call 172; (with_reducible refine (C2.out _).mono ?_); rintro e w2 ⟨⟨t2, rfl, ht2⟩, hb2⟩; have x2 := x1.below hb2; have T2 := Lib.hid ((T1.out.alloc _).below hb2); have q0 := x2.c0; have q1 := x2.c1; have q2 := x2.c2; have l3 := x2.lt; have x3 := Lib.hid (x2.alloc (.cells #[.bool false, .string t2, .int .i64 M] 95 (0, 0))); have y3 := Lib.hid (BigAt.new w2 (.bool false) (.string t2) (.int .i64 M)); have T3 := Lib.hid (T2.out.alloc (.cells #[.bool false, .string t2, .int .i64 M] 95 (0, 0))); have C4 : Hid (∀ w, Calls Tryz.prog 173 #[.string t1, .string t2] w fun e w' => e = .returned (.int .i64 (-1)) ∧ w = w') := (fun w => (cmp_any t1 t2 X Y w ht1 ht2 H16.out.1 H16.out.2).mono fun e w' h => ⟨retC_lt h.1 HL.out, h.2⟩))
    | (go_at_call 172; (with_reducible refine (C1.out _).mono ?_); rintro e w1 ⟨⟨t1, rfl, ht1⟩, hb1⟩; have T1 := Lib.hid (T.out.below hb1); have x1 := BigAt.new w1 (.bool true) (.string t1) (.int .i64 M); have l1 := T1.out.q.lt; have l2 := T1.out.p.lt; have e0 := T1.out.q.c0; have e1 := T1.out.q.c1; have e2 := T1.out.q.c2; have e3 := T1.out.p.c2)
    | (go_at_call 173; (with_reducible refine (C4.out _).mono ?_); rintro e w3 ⟨rfl, hw3⟩; rw [hw3] at x3 y3 T3; have hlt2 : w1.heap.size < w2.heap.size := l3; have hr3 : w.heap.size + 1 + 1 < w1.heap.size := T1.out.r.lt; clear x1 x2 q0 q1 q2 e0 e1 e2 e3 l1 l2 l3 C1 C2 hb1 hb2 hw3 T1 T2 T; generalize w1.heap.size = bx at *; generalize w2.heap.size = bb at *; obtain ⟨b3, hb3⟩ : ∃ b3, b3 = w.heap.size + 1 + 1 := ⟨_, rfl⟩; have g3 : Hid (w.heap.size ≤ b3) := (by rw [hb3]; show w.heap.size ≤ _; omega); rw [← hb3] at T3 hr3; rw [← hb3]; clear hb3; have c0 := x3.out.c0; have c1 := x3.out.c1; have c2 := x3.out.c2; have d0 := y3.out.c0; have d1 := y3.out.c1; have d2 := y3.out.c2; have v0 := T3.out.r.c0; have v1 := T3.out.r.c1; have v2 := T3.out.r.c2; have y0 := x3.out.z (i := 0); have y1 := x3.out.z (i := 1); have y2 := x3.out.z (i := 2); have u0 := y3.out.z (i := 0); have u1 := y3.out.z (i := 1); have u2 := y3.out.z (i := 2); have s0 := T3.out.r.z (i := 0); have s1 := T3.out.r.z (i := 1); have s2 := T3.out.r.z (i := 2); have n1 : bx ≠ bb := Nat.ne_of_lt hlt2; have n2 : bb ≠ bx := Ne.symm n1; have n3 : b3 ≠ bx := Nat.ne_of_lt hr3; have n4 : bx ≠ b3 := Ne.symm n3; have n5 : b3 ≠ bb := (by omega); have n6 : bb ≠ b3 := Ne.symm n5; have m1 : bx < w3.heap.size := x3.out.lt; have m2 : bb < w3.heap.size := y3.out.lt; have m3 : b3 < w3.heap.size := T3.out.r.lt))
  refine bodyPost_ret (by simp [results, Tryz.results123, go_sem, r0, r1, r2]; rfl) rfl ?_
  exact ⟨⟨t, rfl, ht⟩, ((B5.out.setCell (p := ⟨b3, 0, none⟩) g3.out _).setCell (p := ⟨b3, 1, none⟩) g3.out _).setCell (p := ⟨b3, 2, none⟩) g3.out _⟩

set_option maxHeartbeats 2000000 in
theorem plus_less_false (a b : ByteArray) (m n s u M : Nat) (w : World) (ha : IsB a m) (hb : IsB b n) (hm : m ≤ 1000000000000000) (hn : n ≤ 1000000000000000) (hM : M = max s u) (hM3 : M ≤ 3) (X Y : Nat) (hX : X = m * 10 ^ (M - s)) (hY : Y = n * 10 ^ (M - u)) (hX1 : X ≤ 1000000000000000000) (hY1 : Y ≤ 1000000000000000000) (hlt : X < Y) : Calls Tryz.prog 123 #[.agg #[.bool false, .string a, .int .i64 s], .agg #[.bool true, .string b, .int .i64 u]] w fun e w' => RetBig true (Y - X) M e ∧ Below w.heap.size w w' := by
  have hmax : max (s : Int) (u : Int) = (M : Int) := by omega
  have C1 : Hid (∀ w, Calls Tryz.prog 172 #[.agg #[.bool false, .string a, .int .i64 s], .int .i64 M] w fun e w' => RetBig false X M e ∧ Below w.heap.size w w') := fun w => by rw [hX]; exact wider_any false a m s M w ha hm (by omega) hM3
  have C2 : Hid (∀ w, Calls Tryz.prog 172 #[.agg #[.bool true, .string b, .int .i64 u], .int .i64 M] w fun e w' => RetBig true Y M e ∧ Below w.heap.size w w') := fun w => by rw [hY]; exact wider_any true b n u M w hb hn (by omega) hM3
  have T := Lib.hid (three w (.bool false) (.string a) (.int .i64 s) (.bool true) (.string b) (.int .i64 u) (.bool false) (.string ⟨#[]⟩) (.int .i64 0))
  have H16 : Hid (X < 256 ^ 16 ∧ Y < 256 ^ 16) := ⟨lt16 (Nat.lt_succ_of_le hX1) (by decide), lt16 (Nat.lt_succ_of_le hY1) (by decide)⟩
  have HL := Lib.hid hlt
  clear ha hb hX hY hM hlt hm hn hX1 hY1 hM3
  go_enter Tryz.func123, Tryz.ntmps123
  go_wp2_with (first
    | (have _ := c0; go_at_call 174; (with_reducible refine (sub_any t2 t1 Y X _ ht2 ht1 H16.out.2 (Nat.le_of_lt HL.out)).mono ?_); rintro e w5 ⟨⟨t, rfl, ht⟩, hb5⟩; have f0 : w5.cell? ⟨bx, 0, none⟩ = some (.bool true) := ((hb5.cell (by simp; omega)).trans (by simp [go_sem, *])); have f2 : w5.cell? ⟨bx, 2, none⟩ = some (.int .i64 M) := ((hb5.cell (by simp; omega)).trans (by simp [go_sem, *])); have r0 : w5.cell? ⟨b3, 0, none⟩ = some (.bool false) := ((hb5.cell (by simp; omega)).trans (by simp [go_sem, *])); have r1 : w5.cell? ⟨b3, 1, none⟩ = some (.string ⟨#[]⟩) := ((hb5.cell (by simp; omega)).trans (by simp [go_sem, *])); have r2 : w5.cell? ⟨b3, 2, none⟩ = some (.int .i64 0) := ((hb5.cell (by simp; omega)).trans (by simp [go_sem, *])); have z0 : w5.frozen? ⟨b3, 0, none⟩ = false := ((hb5.frozen (by simp; omega)).trans (by simp [go_sem, *])); have z1 : w5.frozen? ⟨b3, 1, none⟩ = false := ((hb5.frozen (by simp; omega)).trans (by simp [go_sem, *])); have z2 : w5.frozen? ⟨b3, 2, none⟩ = false := ((hb5.frozen (by simp; omega)).trans (by simp [go_sem, *])); have gx : w.heap.size ≤ bx := (by have := g3.out; omega); have gb : w.heap.size ≤ bb := (by omega); have B5 : Hid (Below w.heap.size w w5) := ((((((((T3.out.h.setCell (p := ⟨bx, 0, none⟩) gx _).setCell (p := ⟨bx, 1, none⟩) gx _).setCell (p := ⟨bx, 2, none⟩) gx _).setCell (p := ⟨bb, 0, none⟩) gb _).setCell (p := ⟨bb, 1, none⟩) gb _).setCell (p := ⟨bb, 2, none⟩) gb _).alloc (by simp; omega) _).trans (hb5.mono (by simp; omega))); have hpos : (0 : Int) < (t.size : Int) := (by have := isB_pos ht (by have := HL.out; omega); omega))
    | (have _ := ht1; go_at_call 172; (with_reducible refine (C2.out _).mono ?_); rintro e w2 ⟨⟨t2, rfl, ht2⟩, hb2⟩; have x2 := x1.below hb2; have T2 := Lib.hid ((T1.out.alloc _).below hb2); have q0 := x2.c0; have q1 := x2.c1; have q2 := x2.c2; have l3 := x2.lt; have x3 := Lib.hid (x2.alloc (.cells #[.bool true, .string t2, .int .i64 M] 95 (0, 0))); have y3 := Lib.hid (BigAt.new w2 (.bool true) (.string t2) (.int .i64 M)); have T3 := Lib.hid (T2.out.alloc (.cells #[.bool true, .string t2, .int .i64 M] 95 (0, 0))); have C4 : Hid (∀ w, Calls Tryz.prog 173 #[.string t1, .string t2] w fun e w' => e = .returned (.int .i64 (-1)) ∧ w = w') := (fun w => (cmp_any t1 t2 X Y w ht1 ht2 H16.out.1 H16.out.2).mono fun e w' h => ⟨retC_lt h.1 HL.out, h.2⟩))
    | (go_at_call 172; (with_reducible refine (C1.out _).mono ?_); rintro e w1 ⟨⟨t1, rfl, ht1⟩, hb1⟩; have T1 := Lib.hid (T.out.below hb1); have x1 := BigAt.new w1 (.bool false) (.string t1) (.int .i64 M); have l1 := T1.out.q.lt; have l2 := T1.out.p.lt; have e0 := T1.out.q.c0; have e1 := T1.out.q.c1; have e2 := T1.out.q.c2; have e3 := T1.out.p.c2)
    | (go_at_call 173; (with_reducible refine (C4.out _).mono ?_); rintro e w3 ⟨rfl, hw3⟩; rw [hw3] at x3 y3 T3; have hlt2 : w1.heap.size < w2.heap.size := l3; have hr3 : w.heap.size + 1 + 1 < w1.heap.size := T1.out.r.lt; clear x1 x2 q0 q1 q2 e0 e1 e2 e3 l1 l2 l3 C1 C2 hb1 hb2 hw3 T1 T2 T; generalize w1.heap.size = bx at *; generalize w2.heap.size = bb at *; obtain ⟨b3, hb3⟩ : ∃ b3, b3 = w.heap.size + 1 + 1 := ⟨_, rfl⟩; have g3 : Hid (w.heap.size ≤ b3) := (by rw [hb3]; show w.heap.size ≤ _; omega); rw [← hb3] at T3 hr3; rw [← hb3]; clear hb3; have c0 := x3.out.c0; have c1 := x3.out.c1; have c2 := x3.out.c2; have d0 := y3.out.c0; have d1 := y3.out.c1; have d2 := y3.out.c2; have v0 := T3.out.r.c0; have v1 := T3.out.r.c1; have v2 := T3.out.r.c2; have y0 := x3.out.z (i := 0); have y1 := x3.out.z (i := 1); have y2 := x3.out.z (i := 2); have u0 := y3.out.z (i := 0); have u1 := y3.out.z (i := 1); have u2 := y3.out.z (i := 2); have s0 := T3.out.r.z (i := 0); have s1 := T3.out.r.z (i := 1); have s2 := T3.out.r.z (i := 2); have n1 : bx ≠ bb := Nat.ne_of_lt hlt2; have n2 : bb ≠ bx := Ne.symm n1; have n3 : b3 ≠ bx := Nat.ne_of_lt hr3; have n4 : bx ≠ b3 := Ne.symm n3; have n5 : b3 ≠ bb := (by omega); have n6 : bb ≠ b3 := Ne.symm n5; have m1 : bx < w3.heap.size := x3.out.lt; have m2 : bb < w3.heap.size := y3.out.lt; have m3 : b3 < w3.heap.size := T3.out.r.lt))
  refine bodyPost_ret (by simp [results, Tryz.results123, go_sem, r0, r1, r2]; rfl) rfl ?_
  exact ⟨⟨t, by rw [isB_dec ht true (by have := HL.out; simp; omega)], ht⟩, ((B5.out.setCell (p := ⟨b3, 0, none⟩) g3.out _).setCell (p := ⟨b3, 1, none⟩) g3.out _).setCell (p := ⟨b3, 2, none⟩) g3.out _⟩

set_option maxHeartbeats 2000000 in
theorem plus_more_true (a b : ByteArray) (m n s u M : Nat) (w : World) (ha : IsB a m) (hb : IsB b n) (hm : m ≤ 1000000000000000) (hn : n ≤ 1000000000000000) (hM : M = max s u) (hM3 : M ≤ 3) (X Y : Nat) (hX : X = m * 10 ^ (M - s)) (hY : Y = n * 10 ^ (M - u)) (hX1 : X ≤ 1000000000000000000) (hY1 : Y ≤ 1000000000000000000) (hlt : Y ≤ X) : Calls Tryz.prog 123 #[.agg #[.bool true, .string a, .int .i64 s], .agg #[.bool false, .string b, .int .i64 u]] w fun e w' => RetBig (decide (Y < X)) (X - Y) M e ∧ Below w.heap.size w w' := by
  have hmax : max (s : Int) (u : Int) = (M : Int) := by omega
  have C1 : Hid (∀ w, Calls Tryz.prog 172 #[.agg #[.bool true, .string a, .int .i64 s], .int .i64 M] w fun e w' => RetBig true X M e ∧ Below w.heap.size w w') := fun w => by rw [hX]; exact wider_any true a m s M w ha hm (by omega) hM3
  have C2 : Hid (∀ w, Calls Tryz.prog 172 #[.agg #[.bool false, .string b, .int .i64 u], .int .i64 M] w fun e w' => RetBig false Y M e ∧ Below w.heap.size w w') := fun w => by rw [hY]; exact wider_any false b n u M w hb hn (by omega) hM3
  have T := Lib.hid (three w (.bool true) (.string a) (.int .i64 s) (.bool false) (.string b) (.int .i64 u) (.bool false) (.string ⟨#[]⟩) (.int .i64 0))
  have H16 : Hid (X < 256 ^ 16 ∧ Y < 256 ^ 16) := ⟨lt16 (Nat.lt_succ_of_le hX1) (by decide), lt16 (Nat.lt_succ_of_le hY1) (by decide)⟩
  have HL := Lib.hid hlt
  clear ha hb hX hY hM hlt hm hn hX1 hY1 hM3
  go_enter Tryz.func123, Tryz.ntmps123
  go_wp2_with (first
    | (have _ := c0; go_at_call 174; (with_reducible refine (sub_any t1 t2 X Y _ ht1 ht2 H16.out.1 HL.out).mono ?_); rintro e w5 ⟨⟨t, rfl, ht⟩, hb5⟩; have f0 : w5.cell? ⟨bx, 0, none⟩ = some (.bool true) := ((hb5.cell (by omega)).trans (by assumption)); have f2 : w5.cell? ⟨bx, 2, none⟩ = some (.int .i64 M) := ((hb5.cell (by omega)).trans (by assumption)); have r0 : w5.cell? ⟨b3, 0, none⟩ = some (.bool false) := ((hb5.cell (by omega)).trans (by assumption)); have r1 : w5.cell? ⟨b3, 1, none⟩ = some (.string ⟨#[]⟩) := ((hb5.cell (by omega)).trans (by assumption)); have r2 : w5.cell? ⟨b3, 2, none⟩ = some (.int .i64 0) := ((hb5.cell (by omega)).trans (by assumption)); have z0 : w5.frozen? ⟨b3, 0, none⟩ = false := ((hb5.frozen (by omega)).trans (by assumption)); have z1 : w5.frozen? ⟨b3, 1, none⟩ = false := ((hb5.frozen (by omega)).trans (by assumption)); have z2 : w5.frozen? ⟨b3, 2, none⟩ = false := ((hb5.frozen (by omega)).trans (by assumption)); have gx : w.heap.size ≤ bx := (by have := g3.out; omega); have gb : w.heap.size ≤ bb := (by omega); have B5 : Hid (Below w.heap.size w w5) := (T3.out.h.trans (hb5.mono T3.out.h.size)); have hpos : True := trivial)
    | (have _ := ht1; go_at_call 172; (with_reducible refine (C2.out _).mono ?_); rintro e w2 ⟨⟨t2, rfl, ht2⟩, hb2⟩; have x2 := x1.below hb2; have T2 := Lib.hid ((T1.out.alloc _).below hb2); have q0 := x2.c0; have q1 := x2.c1; have q2 := x2.c2; have l3 := x2.lt; have x3 := Lib.hid (x2.alloc (.cells #[.bool false, .string t2, .int .i64 M] 95 (0, 0))); have y3 := Lib.hid (BigAt.new w2 (.bool false) (.string t2) (.int .i64 M)); have T3 := Lib.hid (T2.out.alloc (.cells #[.bool false, .string t2, .int .i64 M] 95 (0, 0))); have C4 : Hid (∀ w, Calls Tryz.prog 173 #[.string t1, .string t2] w fun e w' => (∃ c : Int, e = .returned (.int .i64 c) ∧ 0 ≤ c ∧ c ≤ 1) ∧ w = w') := (fun w => (cmp_any t1 t2 X Y w ht1 ht2 H16.out.1 H16.out.2).mono fun e w' h => ⟨retC_ge h.1 HL.out, h.2⟩))
    | (go_at_call 172; (with_reducible refine (C1.out _).mono ?_); rintro e w1 ⟨⟨t1, rfl, ht1⟩, hb1⟩; have T1 := Lib.hid (T.out.below hb1); have x1 := BigAt.new w1 (.bool true) (.string t1) (.int .i64 M); have l1 := T1.out.q.lt; have l2 := T1.out.p.lt; have e0 := T1.out.q.c0; have e1 := T1.out.q.c1; have e2 := T1.out.q.c2; have e3 := T1.out.p.c2)
    | (go_at_call 173; (with_reducible refine (C4.out _).mono ?_); rintro e w3 ⟨⟨c, rfl, hc0, hc1⟩, hw3⟩; have hc2 : ¬ (c < 0) := (by omega); rw [hw3] at x3 y3 T3; have hlt2 : w1.heap.size < w2.heap.size := l3; have hr3 : w.heap.size + 1 + 1 < w1.heap.size := T1.out.r.lt; clear x1 x2 q0 q1 q2 e0 e1 e2 e3 l1 l2 l3 C1 C2 hb1 hb2 hw3 T1 T2 T; generalize w1.heap.size = bx at *; generalize w2.heap.size = bb at *; obtain ⟨b3, hb3⟩ : ∃ b3, b3 = w.heap.size + 1 + 1 := ⟨_, rfl⟩; have g3 : Hid (w.heap.size ≤ b3) := (by rw [hb3]; show w.heap.size ≤ _; omega); rw [← hb3] at T3 hr3; rw [← hb3]; clear hb3; have c0 := x3.out.c0; have c1 := x3.out.c1; have c2 := x3.out.c2; have d0 := y3.out.c0; have d1 := y3.out.c1; have d2 := y3.out.c2; have v0 := T3.out.r.c0; have v1 := T3.out.r.c1; have v2 := T3.out.r.c2; have y0 := x3.out.z (i := 0); have y1 := x3.out.z (i := 1); have y2 := x3.out.z (i := 2); have u0 := y3.out.z (i := 0); have u1 := y3.out.z (i := 1); have u2 := y3.out.z (i := 2); have s0 := T3.out.r.z (i := 0); have s1 := T3.out.r.z (i := 1); have s2 := T3.out.r.z (i := 2); have n1 : bx ≠ bb := Nat.ne_of_lt hlt2; have n2 : bb ≠ bx := Ne.symm n1; have n3 : b3 ≠ bx := Nat.ne_of_lt hr3; have n4 : bx ≠ b3 := Ne.symm n3; have n5 : b3 ≠ bb := (by omega); have n6 : bb ≠ b3 := Ne.symm n5; have m1 : bx < w3.heap.size := x3.out.lt; have m2 : bb < w3.heap.size := y3.out.lt; have m3 : b3 < w3.heap.size := T3.out.r.lt))
  refine bodyPost_ret (by simp [results, Tryz.results123, go_sem, r0, r1, r2]; rfl) rfl ?_
  exact ⟨⟨t, by rw [isB_dec ht (decide (Y < X)) (by rw [decide_eq_decide]; omega)], ht⟩, ((B5.out.setCell (p := ⟨b3, 0, none⟩) g3.out _).setCell (p := ⟨b3, 1, none⟩) g3.out _).setCell (p := ⟨b3, 2, none⟩) g3.out _⟩

set_option maxHeartbeats 2000000 in
theorem plus_more_false (a b : ByteArray) (m n s u M : Nat) (w : World) (ha : IsB a m) (hb : IsB b n) (hm : m ≤ 1000000000000000) (hn : n ≤ 1000000000000000) (hM : M = max s u) (hM3 : M ≤ 3) (X Y : Nat) (hX : X = m * 10 ^ (M - s)) (hY : Y = n * 10 ^ (M - u)) (hX1 : X ≤ 1000000000000000000) (hY1 : Y ≤ 1000000000000000000) (hlt : Y ≤ X) : Calls Tryz.prog 123 #[.agg #[.bool false, .string a, .int .i64 s], .agg #[.bool true, .string b, .int .i64 u]] w fun e w' => RetBig false (X - Y) M e ∧ Below w.heap.size w w' := by
  have hmax : max (s : Int) (u : Int) = (M : Int) := by omega
  have C1 : Hid (∀ w, Calls Tryz.prog 172 #[.agg #[.bool false, .string a, .int .i64 s], .int .i64 M] w fun e w' => RetBig false X M e ∧ Below w.heap.size w w') := fun w => by rw [hX]; exact wider_any false a m s M w ha hm (by omega) hM3
  have C2 : Hid (∀ w, Calls Tryz.prog 172 #[.agg #[.bool true, .string b, .int .i64 u], .int .i64 M] w fun e w' => RetBig true Y M e ∧ Below w.heap.size w w') := fun w => by rw [hY]; exact wider_any true b n u M w hb hn (by omega) hM3
  have T := Lib.hid (three w (.bool false) (.string a) (.int .i64 s) (.bool true) (.string b) (.int .i64 u) (.bool false) (.string ⟨#[]⟩) (.int .i64 0))
  have H16 : Hid (X < 256 ^ 16 ∧ Y < 256 ^ 16) := ⟨lt16 (Nat.lt_succ_of_le hX1) (by decide), lt16 (Nat.lt_succ_of_le hY1) (by decide)⟩
  have HL := Lib.hid hlt
  clear ha hb hX hY hM hlt hm hn hX1 hY1 hM3
  go_enter Tryz.func123, Tryz.ntmps123
  go_wp2_with (first
    | (have _ := c0; go_at_call 174; (with_reducible refine (sub_any t1 t2 X Y _ ht1 ht2 H16.out.1 HL.out).mono ?_); rintro e w5 ⟨⟨t, rfl, ht⟩, hb5⟩; have f0 : w5.cell? ⟨bx, 0, none⟩ = some (.bool false) := ((hb5.cell (by omega)).trans (by assumption)); have f2 : w5.cell? ⟨bx, 2, none⟩ = some (.int .i64 M) := ((hb5.cell (by omega)).trans (by assumption)); have r0 : w5.cell? ⟨b3, 0, none⟩ = some (.bool false) := ((hb5.cell (by omega)).trans (by assumption)); have r1 : w5.cell? ⟨b3, 1, none⟩ = some (.string ⟨#[]⟩) := ((hb5.cell (by omega)).trans (by assumption)); have r2 : w5.cell? ⟨b3, 2, none⟩ = some (.int .i64 0) := ((hb5.cell (by omega)).trans (by assumption)); have z0 : w5.frozen? ⟨b3, 0, none⟩ = false := ((hb5.frozen (by omega)).trans (by assumption)); have z1 : w5.frozen? ⟨b3, 1, none⟩ = false := ((hb5.frozen (by omega)).trans (by assumption)); have z2 : w5.frozen? ⟨b3, 2, none⟩ = false := ((hb5.frozen (by omega)).trans (by assumption)); have gx : w.heap.size ≤ bx := (by have := g3.out; omega); have gb : w.heap.size ≤ bb := (by omega); have B5 : Hid (Below w.heap.size w w5) := (T3.out.h.trans (hb5.mono T3.out.h.size)); have hpos : True := trivial)
    | (have _ := ht1; go_at_call 172; (with_reducible refine (C2.out _).mono ?_); rintro e w2 ⟨⟨t2, rfl, ht2⟩, hb2⟩; have x2 := x1.below hb2; have T2 := Lib.hid ((T1.out.alloc _).below hb2); have q0 := x2.c0; have q1 := x2.c1; have q2 := x2.c2; have l3 := x2.lt; have x3 := Lib.hid (x2.alloc (.cells #[.bool true, .string t2, .int .i64 M] 95 (0, 0))); have y3 := Lib.hid (BigAt.new w2 (.bool true) (.string t2) (.int .i64 M)); have T3 := Lib.hid (T2.out.alloc (.cells #[.bool true, .string t2, .int .i64 M] 95 (0, 0))); have C4 : Hid (∀ w, Calls Tryz.prog 173 #[.string t1, .string t2] w fun e w' => (∃ c : Int, e = .returned (.int .i64 c) ∧ 0 ≤ c ∧ c ≤ 1) ∧ w = w') := (fun w => (cmp_any t1 t2 X Y w ht1 ht2 H16.out.1 H16.out.2).mono fun e w' h => ⟨retC_ge h.1 HL.out, h.2⟩))
    | (go_at_call 172; (with_reducible refine (C1.out _).mono ?_); rintro e w1 ⟨⟨t1, rfl, ht1⟩, hb1⟩; have T1 := Lib.hid (T.out.below hb1); have x1 := BigAt.new w1 (.bool false) (.string t1) (.int .i64 M); have l1 := T1.out.q.lt; have l2 := T1.out.p.lt; have e0 := T1.out.q.c0; have e1 := T1.out.q.c1; have e2 := T1.out.q.c2; have e3 := T1.out.p.c2)
    | (go_at_call 173; (with_reducible refine (C4.out _).mono ?_); rintro e w3 ⟨⟨c, rfl, hc0, hc1⟩, hw3⟩; have hc2 : ¬ (c < 0) := (by omega); rw [hw3] at x3 y3 T3; have hlt2 : w1.heap.size < w2.heap.size := l3; have hr3 : w.heap.size + 1 + 1 < w1.heap.size := T1.out.r.lt; clear x1 x2 q0 q1 q2 e0 e1 e2 e3 l1 l2 l3 C1 C2 hb1 hb2 hw3 T1 T2 T; generalize w1.heap.size = bx at *; generalize w2.heap.size = bb at *; obtain ⟨b3, hb3⟩ : ∃ b3, b3 = w.heap.size + 1 + 1 := ⟨_, rfl⟩; have g3 : Hid (w.heap.size ≤ b3) := (by rw [hb3]; show w.heap.size ≤ _; omega); rw [← hb3] at T3 hr3; rw [← hb3]; clear hb3; have c0 := x3.out.c0; have c1 := x3.out.c1; have c2 := x3.out.c2; have d0 := y3.out.c0; have d1 := y3.out.c1; have d2 := y3.out.c2; have v0 := T3.out.r.c0; have v1 := T3.out.r.c1; have v2 := T3.out.r.c2; have y0 := x3.out.z (i := 0); have y1 := x3.out.z (i := 1); have y2 := x3.out.z (i := 2); have u0 := y3.out.z (i := 0); have u1 := y3.out.z (i := 1); have u2 := y3.out.z (i := 2); have s0 := T3.out.r.z (i := 0); have s1 := T3.out.r.z (i := 1); have s2 := T3.out.r.z (i := 2); have n1 : bx ≠ bb := Nat.ne_of_lt hlt2; have n2 : bb ≠ bx := Ne.symm n1; have n3 : b3 ≠ bx := Nat.ne_of_lt hr3; have n4 : bx ≠ b3 := Ne.symm n3; have n5 : b3 ≠ bb := (by omega); have n6 : bb ≠ b3 := Ne.symm n5; have m1 : bx < w3.heap.size := x3.out.lt; have m2 : bb < w3.heap.size := y3.out.lt; have m3 : b3 < w3.heap.size := T3.out.r.lt))
  refine bodyPost_ret (by simp [results, Tryz.results123, go_sem, r0, r1, r2]; rfl) rfl ?_
  exact ⟨⟨t, rfl, ht⟩, ((B5.out.setCell (p := ⟨b3, 0, none⟩) g3.out _).setCell (p := ⟨b3, 1, none⟩) g3.out _).setCell (p := ⟨b3, 2, none⟩) g3.out _⟩
end Go.EvProp

namespace Go.EvProp
open Go Go.Proofs Go.RowKit Go.Lib
set_option maxRecDepth 100000

/-- A number comes back whose sign is that of D. -/
def RetSgn (D : Int) (M : Nat) (e : Ending) : Prop := ∃ (neg : Bool) (n : Nat), RetBig neg n M e ∧ (n = 0 ↔ D = 0) ∧ (n ≠ 0 → neg = decide (D < 0))

def sg (p : Bool) (X : Nat) : Int := if p = true then -(X : Int) else X

theorem plus_sgn (p q : Bool) (a b : ByteArray) (m n s u M : Nat) (w : World) (ha : IsB a m) (hb : IsB b n) (hm : m ≤ 1000000000000000) (hn : n ≤ 1000000000000000) (hM : M = max s u) (hM3 : M ≤ 3) (X Y : Nat) (hX : X = m * 10 ^ (M - s)) (hY : Y = n * 10 ^ (M - u)) : Calls Tryz.prog 123 #[.agg #[.bool p, .string a, .int .i64 s], .agg #[.bool (!q), .string b, .int .i64 u]] w fun e w' => RetSgn (sg p X - sg q Y) M e ∧ Below w.heap.size w w' := by
  have hp1 : 10 ^ (M - s) ≤ 10 ^ 3 := Nat.pow_le_pow_right (by omega) (by omega)
  have hp2 : 10 ^ (M - u) ≤ 10 ^ 3 := Nat.pow_le_pow_right (by omega) (by omega)
  have hX1 : X ≤ 1000000000000000000 := by rw [hX]; exact Nat.mul_le_mul hm hp1
  have hY1 : Y ≤ 1000000000000000000 := by rw [hY]; exact Nat.mul_le_mul hn hp2
  cases p <;> cases q
  · by_cases h : X < Y
    · exact (plus_less_false a b m n s u M w ha hb hm hn hM hM3 X Y hX hY hX1 hY1 h).mono fun e w' ⟨h1, h2⟩ => ⟨⟨_, _, h1, by simp [sg]; omega, fun _ => by simp [sg]; omega⟩, h2⟩
    · exact (plus_more_false a b m n s u M w ha hb hm hn hM hM3 X Y hX hY hX1 hY1 (by omega)).mono fun e w' ⟨h1, h2⟩ => ⟨⟨_, _, h1, by simp [sg]; omega, fun _ => by simp [sg]; omega⟩, h2⟩
  · exact (plus_same false a b m n s u M w ha hb hm hn hM hM3 X Y hX hY hX1 hY1).mono fun e w' ⟨h1, h2⟩ => ⟨⟨_, _, h1, by simp [sg]; omega, fun _ => by simp [sg]; omega⟩, h2⟩
  · exact (plus_same true a b m n s u M w ha hb hm hn hM hM3 X Y hX hY hX1 hY1).mono fun e w' ⟨h1, h2⟩ => ⟨⟨_, _, h1, by simp [sg]; omega, fun h => by simp [sg]; omega⟩, h2⟩
  · by_cases h : X < Y
    · exact (plus_less_true a b m n s u M w ha hb hm hn hM hM3 X Y hX hY hX1 hY1 h).mono fun e w' ⟨h1, h2⟩ => ⟨⟨_, _, h1, by simp [sg]; omega, fun _ => by simp [sg]; omega⟩, h2⟩
    · exact (plus_more_true a b m n s u M w ha hb hm hn hM hM3 X Y hX hY hX1 hY1 (by omega)).mono fun e w' ⟨h1, h2⟩ => ⟨⟨_, _, h1, by simp [sg]; omega, fun hh => by rw [decide_eq_decide]; simp [sg]; omega⟩, h2⟩

def sgnI (D : Int) : Int := if D = 0 then 0 else if D < 0 then -1 else 1
def RetI (n : Int) (e : Ending) : Prop := e = .returned (.int .i64 n)

theorem sgn0 {t : ByteArray} {n : Nat} {D : Int} (ht : IsB t n) (hn0 : n = 0 ↔ D = 0) (h : ((t.size : Int) == 0) = true) : sgnI D = 0 := by
  have h : (t.size : Int) = 0 := by simpa using h
  have := ht.zero.1 (by omega)
  unfold sgnI; rw [if_pos (hn0.1 this)]
theorem sgn_ne {t : ByteArray} {n : Nat} {D : Int} (ht : IsB t n) (hn0 : n = 0 ↔ D = 0) (h : ((t.size : Int) == 0) = false) : n ≠ 0 ∧ D ≠ 0 := by
  have h : ¬ (t.size : Int) = 0 := by rw [beq_eq_false_iff_ne] at h; exact h
  have h2 : n ≠ 0 := fun e => h (by have := ht.zero.2 e; omega)
  exact ⟨h2, fun e => h2 (hn0.2 e)⟩
theorem sgn1 {t : ByteArray} {n : Nat} {D : Int} {neg : Bool} (ht : IsB t n) (hn0 : n = 0 ↔ D = 0) (h : ((t.size : Int) == 0) = false) (hneg : n ≠ 0 → neg = decide (D < 0)) (hn : neg = true) : sgnI D = -1 := by
  obtain ⟨h1, h2⟩ := sgn_ne ht hn0 h
  have h3 := hneg h1
  rw [hn] at h3
  have h3 : D < 0 := by simpa using h3.symm
  unfold sgnI; rw [if_neg h2, if_pos h3]
theorem sgn2 {t : ByteArray} {n : Nat} {D : Int} {neg : Bool} (ht : IsB t n) (hn0 : n = 0 ↔ D = 0) (h : ((t.size : Int) == 0) = false) (hneg : n ≠ 0 → neg = decide (D < 0)) (hn : neg = false) : sgnI D = 1 := by
  obtain ⟨h1, h2⟩ := sgn_ne ht hn0 h
  have h3 := hneg h1
  rw [hn] at h3
  have h3 : ¬ D < 0 := by simpa using h3.symm
  unfold sgnI; rw [if_neg h2, if_neg h3]

set_option maxHeartbeats 2000000 in
theorem cmp4_any (N1 N2 : Int) (S1 S2 M : Nat) (w : World) (h1 : RightD N1 S1) (h2 : RightD N2 S2) (hM : M = max S1 S2) (hM3 : M ≤ 3) (D : Int) (hD : D = sg (decide (N1 < 0)) (N1.natAbs * 10 ^ (M - S1)) - sg (decide (N2 < 0)) (N2.natAbs * 10 ^ (M - S2))) : Calls Tryz.prog 56 #[.agg #[.int .i64 N1, .int .i64 S1], .agg #[.int .i64 N2, .int .i64 S2]] w fun e w' => RetI (sgnI D) e ∧ Below w.heap.size w w' := by
  have C1 := Lib.hid fun w => big_any N1 S1 w h1
  have C2 := Lib.hid fun w => big_any N2 S2 w h2
  have C3 : Hid (∀ t1 t2 w, IsB t1 N1.natAbs → IsB t2 N2.natAbs → Calls Tryz.prog 123 #[.agg #[.bool (decide (N1 < 0)), .string t1, .int .i64 S1], .agg #[.bool (!(decide (N2 < 0))), .string t2, .int .i64 S2]] w fun e w' => RetSgn D M e ∧ Below w.heap.size w w') := fun t1 t2 w ht1 ht2 => by
    rw [hD]
    exact plus_sgn _ _ t1 t2 _ _ S1 S2 M w ht1 ht2 (by have := h1.2.2; omega) (by have := h2.2.2; omega) hM hM3 _ _ rfl rfl
  have T := Lib.hid (two w (.cells #[.int .i64 N1, .int .i64 S1] 39 (0, 0)) (.cells #[.int .i64 N2, .int .i64 S2] 39 (0, 0)))
  clear h1 h2 hM hM3 hD
  generalize decide (N1 < 0) = p at *
  generalize decide (N2 < 0) = q at *
  go_enter Tryz.func56, Tryz.ntmps56
  go_wp2_with (first
    | (have _ := ht2; go_at_call 123; (with_reducible refine (C3.out t1 t2 _ ht1 ht2).mono ?_); rintro e w3 ⟨⟨neg, n, ⟨t, rfl, ht⟩, hn0, hneg⟩, hb3⟩)
    | (have _ := ht1; go_at_call 48; (with_reducible refine (C2.out _).mono ?_); rintro e w2 ⟨⟨t2, rfl, ht2⟩, hb2⟩; have x2 := x1.below hb2; have l2 := x2.lt; have q0 := x2.c0; have q1 := x2.c1; have q2 := x2.c2; have B2 := Lib.hid ((B1.out.alloc B1.out.size (.cells #[.bool p, .string t1, .int .i64 S1] 95 (0, 0))).trans (hb2.mono (by have := B1.out.size; simp; omega))))
    | (go_at_call 48; (with_reducible refine (C1.out _).mono ?_); rintro e w1 ⟨⟨t1, rfl, ht1⟩, hb1⟩; have T1 := T.out.below hb1; have B1 := Lib.hid T1.h; have x1 := BigAt.new w1 (.bool p) (.string t1) (.int .i64 S1); have c0 := cellOf (i := 0) T1.q rfl; have c1 := cellOf (i := 1) T1.q rfl; have l1 := T1.lt))
  all_goals
    have hsz3 : w.heap.size ≤ w3.heap.size := by have h1 := hb3.size; rw [sizeNew] at h1; have := B2.out.size; omega
    have B3 : Below w.heap.size w (w3.alloc (.cells #[.bool neg, .string t, .int .i64 M] 95 (0, 0))) := ((B2.out.alloc B2.out.size _).trans (hb3.mono (by have := B2.out.size; simp; omega))).alloc hsz3 _
    go_ret
    first
      | exact ⟨by unfold RetI; rw [sgn0 ht hn0 (by assumption)]; rfl, B3⟩
      | exact ⟨by unfold RetI; rw [sgn1 ht hn0 (by assumption) hneg (by assumption)]; rfl, B3⟩
      | exact ⟨by unfold RetI; rw [sgn2 ht hn0 (by assumption) hneg (by assumption)]; rfl, B3⟩
end Go.EvProp
