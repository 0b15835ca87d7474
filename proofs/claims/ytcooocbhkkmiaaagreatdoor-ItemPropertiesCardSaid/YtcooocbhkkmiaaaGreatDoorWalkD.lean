/-
  Contracts of functions that the law comes to, walked: decimals, first part.
-/
import Derived.Test.YtcooocbhkkmiaaaGreatDoorWalkC
set_option linter.all false
namespace Go.EvProp
open Go Go.Proofs Go.RowKit Go.Lib
set_option maxRecDepth 100000

/-- Two new variables. -/
structure Two (w W : World) (o1 o2 : Obj) (b1 b2 : Nat) : Prop where
  p : W.heap[b1]? = some o1
  q : W.heap[b2]? = some o2
  h : Below w.heap.size w W
  h1 : w.heap.size ≤ b1
  h2 : w.heap.size ≤ b2
  lt : b1 < b2 ∧ b2 < W.heap.size
theorem two (w : World) (o1 o2 : Obj) : Two w ((w.alloc o1).alloc o2) o1 o2 w.heap.size (w.heap.size + 1) := by
  have s1 := sizeNew w o1
  have s2 := sizeNew (w.alloc o1) o2
  refine ⟨?_, ?_, ((Below.refl _ w).alloc (Nat.le_refl _) o1).alloc (by omega) o2, by omega, by omega, by omega⟩
  · rw [heapOld (w.alloc o1) o2 (by omega)]; exact heapNew w o1
  · rw [← s1]; exact heapNew (w.alloc o1) o2

/-- A number with sign and scale comes back. -/
def RetBig (neg : Bool) (n s : Nat) (e : Ending) : Prop := ∃ t : ByteArray, e = .returned (.agg #[.bool neg, .string t, .int .i64 s]) ∧ IsB t n

/-- The two variables, behind what leaves them. -/
theorem Two.below {w W W' : World} {o1 o2 : Obj} {b1 b2 : Nat} (T : Two w W o1 o2 b1 b2) (h : Below W.heap.size W W') : Two w W' o1 o2 b1 b2 :=
  ⟨(h.block b1 (by have := T.lt; omega)).trans T.p, (h.block b2 (by have := T.lt; omega)).trans T.q, T.h.trans (h.mono T.h.size), T.h1, T.h2, T.lt.1, Nat.lt_of_lt_of_le T.lt.2 h.size⟩
theorem Two.drew {w W : World} {o1 o2 : Obj} {b1 b2 : Nat} (T : Two w W o1 o2 b1 b2) : Two w W.drew o1 o2 b1 b2 := T.below ((Below.refl _ _).drew)

theorem frozenOf {w : World} {b i : Nat} {cs : Array Value} {t : TypeId} (h : w.heap[b]? = some (.cells cs t (0, 0))) : w.frozen? ⟨b, i, none⟩ = false := by simp [World.frozen?, h]

set_option maxHeartbeats 2000000 in
theorem big_any (N : Int) (S : Nat) (w : World) (h : RightD N S) : Calls Tryz.prog 48 #[.agg #[.int .i64 N, .int .i64 S]] w fun e w' => RetBig (decide (N < 0)) N.natAbs S e ∧ Below w.heap.size w w' := by
  have C1 := Lib.hid fun w => right4_yes N S w h
  have C2 := Lib.hid fun w => natural_any N w (by have := h.2.2.1; omega) (by have := h.2.2.2.1; omega)
  have T := two w (.cells #[.int .i64 N, .int .i64 S] 39 (0, 0)) (.cells #[.bool false, .string ⟨#[]⟩, .int .i64 0] 95 (0, 0))
  clear h
  go_enter Tryz.func48, Tryz.ntmps48
  go_wp2_with (go_at_call 45; (with_reducible refine (C1.out _).mono ?_); rintro e w1 ⟨rfl, hb1⟩)
  have T1 := T.below hb1
  have B1 := Lib.hid T1.h
  clear T hb1
  obtain ⟨b2, hb2⟩ : ∃ b2, b2 = w.heap.size + 1 := ⟨_, rfl⟩
  obtain ⟨b1, hb1⟩ : ∃ b1, b1 = w.heap.size := ⟨_, rfl⟩
  have g1 : w.heap.size ≤ b1 := by omega
  have g2 : w.heap.size ≤ b2 := by omega
  have G2 := Lib.hid g2
  rw [← hb2, ← hb1] at T1
  rw [← hb2, ← hb1]
  have HT := Lib.hid T1.drew
  have c0 := cellOf (i := 0) T1.p rfl
  have c1 := cellOf (i := 1) T1.p rfl
  clear hb2 hb1 T1
  go_region_held3 (fun W => W.cell? ⟨b1, 0, none⟩ = some (.int .i64 N) ∧ W.cell? ⟨b1, 1, none⟩ = some (.int .i64 S)) (first | exact ⟨c0, c1⟩ | exact ⟨k0, k1⟩ | go_keep) (first | (go_at_call 104; (with_reducible refine (C2.out _).mono ?_); rintro e w2 ⟨⟨t, rfl, ht⟩, hb2⟩; have HT2 := Lib.hid (HT.out.below hb2); have k0 := cellOf (i := 0) HT2.out.p rfl; have k1 := cellOf (i := 1) HT2.out.p rfl; have r0 := cellOf (i := 0) HT2.out.q rfl; have r1 := cellOf (i := 1) HT2.out.q rfl; have r2 := cellOf (i := 2) HT2.out.q rfl; have z0 := frozenOf (i := 0) HT2.out.q; have z1 := frozenOf (i := 1) HT2.out.q; have z2 := frozenOf (i := 2) HT2.out.q; have n1 : b1 ≠ b2 := (by have := HT2.out.lt; omega); have n2 : b2 ≠ b1 := (by have := HT2.out.lt; omega)))
  go_wp2
  refine bodyPost_ret (v := .agg #[.bool (decide (N < 0)), .string t, .int .i64 S]) (by simp [results, Tryz.results48, go_sem, r0, r1, r2]) rfl ?_
  exact ⟨⟨t, rfl, ht⟩, ((HT2.out.h.setCell (p := ⟨b2, 0, none⟩) g2 _).setCell (p := ⟨b2, 1, none⟩) g2 _).setCell (p := ⟨b2, 2, none⟩) g2 _⟩

/-- A number, widened. -/
def RetBigS (neg : Bool) (n : Nat) (s : Int) (e : Ending) : Prop := ∃ t : ByteArray, e = .returned (.agg #[.bool neg, .string t, .int .i64 s]) ∧ IsB t n

set_option maxHeartbeats 2000000 in
theorem wider_any (neg : Bool) (a : ByteArray) (n s m : Nat) (w : World) (ha : IsB a n) (hn : n ≤ 1000000000000000) (hs : s ≤ m) (hm : m ≤ 3) : Calls Tryz.prog 172 #[.agg #[.bool neg, .string a, .int .i64 s], .int .i64 m] w fun e w' => RetBig neg (n * 10 ^ (m - s)) m e ∧ Below w.heap.size w w' := by
  obtain ⟨d, hd⟩ : ∃ d, d = m - s := ⟨_, rfl⟩
  have hd' : (m : Int) - (s : Int) = (d : Int) := by omega
  rw [← hd]
  have hp : 10 ^ d ≤ 10 ^ 3 := Nat.pow_le_pow_right (by omega) (by omega)
  have C1 : Hid (∀ w, Calls Tryz.prog 49 #[.int .i64 (IntKind.i64.wrap ((m : Int) - (s : Int)))] w fun e w' => RetB (10 ^ d) e ∧ Below w.heap.size w w') := fun w => by rw [hd', IntWalk.i64_in _ ⟨by omega, by omega⟩]; exact power_any d w (by omega)
  have C2 : Hid (∀ t w, IsB t (10 ^ d) → Calls Tryz.prog 109 #[.string a, .string t] w fun e w' => RetB (n * 10 ^ d) e ∧ Below w.heap.size w w') := fun t w ht => mul_any a t n (10 ^ d) w ha ht (by omega) (Nat.pow_pos (by omega)) (by omega)
  have T := two w (.cells #[.bool neg, .string a, .int .i64 s] 95 (0, 0)) (.cells #[.bool false, .string ⟨#[]⟩, .int .i64 0] 95 (0, 0))
  have i1 : (0 : Int) ≤ (m : Int) - (s : Int) := by omega
  have i2 : (m : Int) - (s : Int) ≤ 3 := by omega
  clear hd hd' hp ha
  go_enter Tryz.func172, Tryz.ntmps172
  go_wp2
  generalize (w.alloc (.cells #[.bool neg, .string a, .int .i64 s] 95 (0, 0))).alloc (.cells #[.bool false, .string ⟨#[]⟩, .int .i64 0] 95 (0, 0)) = w1 at *
  obtain ⟨b2, hb2⟩ : ∃ b2, b2 = w.heap.size + 1 := ⟨_, rfl⟩
  obtain ⟨b1, hb1⟩ : ∃ b1, b1 = w.heap.size := ⟨_, rfl⟩
  have g2 : w.heap.size ≤ b2 := by omega
  rw [← hb2, ← hb1] at T
  rw [← hb2, ← hb1]
  have HT := Lib.hid T.drew
  have c0 := cellOf (i := 0) T.p rfl
  have c1 := cellOf (i := 1) T.p rfl
  have c2 := cellOf (i := 2) T.p rfl
  clear hb2 hb1 T
  go_region_held3 (fun W => W.cell? ⟨b1, 0, none⟩ = some (.bool neg) ∧ W.cell? ⟨b1, 1, none⟩ = some (.string a) ∧ W.cell? ⟨b1, 2, none⟩ = some (.int .i64 s)) (first | exact ⟨c0, c1, c2⟩ | exact ⟨l0, l1, l2⟩ | exact ⟨k0, k1, k2⟩ | go_keep) (first | (have _ := ht2; go_at_call 109; (with_reducible refine (C2.out _ _ ht2).mono ?_); rintro e w3 ⟨⟨t, rfl, ht⟩, hb3⟩; have HT3 := Lib.hid (HT2.out.below hb3); have l0 := cellOf (i := 0) HT3.out.p rfl; have l1 := cellOf (i := 1) HT3.out.p rfl; have l2 := cellOf (i := 2) HT3.out.p rfl; have r0 := cellOf (i := 0) HT3.out.q rfl; have r1 := cellOf (i := 1) HT3.out.q rfl; have r2 := cellOf (i := 2) HT3.out.q rfl; have z0 := frozenOf (i := 0) HT3.out.q; have z1 := frozenOf (i := 1) HT3.out.q; have z2 := frozenOf (i := 2) HT3.out.q; have n1 : b1 ≠ b2 := (by have := HT3.out.lt; omega); have n2 : b2 ≠ b1 := (by have := HT3.out.lt; omega)) | (go_at_call 49; (with_reducible refine (C1.out _).mono ?_); rintro e w2 ⟨⟨t2, rfl, ht2⟩, hb2⟩; have HT2 := Lib.hid (HT.out.below hb2); have k0 := cellOf (i := 0) HT2.out.p rfl; have k1 := cellOf (i := 1) HT2.out.p rfl; have k2 := cellOf (i := 2) HT2.out.p rfl))
  go_wp2
  refine bodyPost_ret (v := .agg #[.bool neg, .string t, .int .i64 m]) (by simp [results, Tryz.results172, go_sem, r0, r1, r2]) rfl ?_
  exact ⟨⟨t, rfl, ht⟩, ((HT3.out.h.setCell (p := ⟨b2, 0, none⟩) g2 _).setCell (p := ⟨b2, 1, none⟩) g2 _).setCell (p := ⟨b2, 2, none⟩) g2 _⟩
end Go.EvProp

namespace Go.EvProp
open Go Go.Proofs Go.RowKit Go.Lib
set_option maxRecDepth 100000

/-- A variable of the type Big. -/
structure BigAt (W : World) (b : Nat) (x y z : Value) : Prop where
  h : W.heap[b]? = some (.cells #[x, y, z] 95 (0, 0))
theorem BigAt.lt {W : World} {b : Nat} {x y z : Value} (h : BigAt W b x y z) : b < W.heap.size := (Array.getElem?_eq_some_iff.1 h.h).1
theorem BigAt.below {W W' : World} {b : Nat} {x y z : Value} (h : BigAt W b x y z) (hb : Below W.heap.size W W') : BigAt W' b x y z := ⟨(hb.block b h.lt).trans h.h⟩
theorem BigAt.alloc {W : World} {b : Nat} {x y z : Value} (h : BigAt W b x y z) (o : Obj) : BigAt (W.alloc o) b x y z := h.below ((Below.refl _ _).alloc (Nat.le_refl _) o)
theorem BigAt.drew {W : World} {b : Nat} {x y z : Value} (h : BigAt W b x y z) : BigAt W.drew b x y z := h.below ((Below.refl _ _).drew)
theorem BigAt.new (W : World) (x y z : Value) : BigAt (W.alloc (.cells #[x, y, z] 95 (0, 0))) W.heap.size x y z := ⟨heapNew W _⟩
theorem BigAt.c0 {W : World} {b : Nat} {x y z : Value} (h : BigAt W b x y z) : W.cell? ⟨b, 0, none⟩ = some x := cellOf (i := 0) h.h rfl
theorem BigAt.c1 {W : World} {b : Nat} {x y z : Value} (h : BigAt W b x y z) : W.cell? ⟨b, 1, none⟩ = some y := cellOf (i := 1) h.h rfl
theorem BigAt.c2 {W : World} {b : Nat} {x y z : Value} (h : BigAt W b x y z) : W.cell? ⟨b, 2, none⟩ = some z := cellOf (i := 2) h.h rfl
theorem BigAt.z {W : World} {b i : Nat} {x y z : Value} (h : BigAt W b x y z) : W.frozen? ⟨b, i, none⟩ = false := frozenOf h.h

/-- Three new variables of the type Big. -/
structure Three (w W : World) (b1 b2 b3 : Nat) (x1 y1 z1 x2 y2 z2 x3 y3 z3 : Value) : Prop where
  p : BigAt W b1 x1 y1 z1
  q : BigAt W b2 x2 y2 z2
  r : BigAt W b3 x3 y3 z3
  h : Below w.heap.size w W
  g : w.heap.size ≤ b1 ∧ b1 < b2 ∧ b2 < b3 ∧ b3 < W.heap.size
theorem three (w : World) (x1 y1 z1 x2 y2 z2 x3 y3 z3 : Value) : Three w (((w.alloc (.cells #[x1, y1, z1] 95 (0, 0))).alloc (.cells #[x2, y2, z2] 95 (0, 0))).alloc (.cells #[x3, y3, z3] 95 (0, 0))) w.heap.size (w.heap.size + 1) (w.heap.size + 1 + 1) x1 y1 z1 x2 y2 z2 x3 y3 z3 := by
  have s1 := sizeNew w (.cells #[x1, y1, z1] 95 (0, 0))
  have s2 := sizeNew (w.alloc (.cells #[x1, y1, z1] 95 (0, 0))) (.cells #[x2, y2, z2] 95 (0, 0))
  have s3 := sizeNew ((w.alloc (.cells #[x1, y1, z1] 95 (0, 0))).alloc (.cells #[x2, y2, z2] 95 (0, 0))) (.cells #[x3, y3, z3] 95 (0, 0))
  refine ⟨((BigAt.new w x1 y1 z1).alloc _).alloc _, ?_, ?_, (((Below.refl _ w).alloc (Nat.le_refl _) _).alloc (by omega) _).alloc (by omega) _, by omega⟩
  · have := (BigAt.new (w.alloc (.cells #[x1, y1, z1] 95 (0, 0))) x2 y2 z2).alloc (.cells #[x3, y3, z3] 95 (0, 0))
    rw [s1] at this
    exact this
  · have := BigAt.new ((w.alloc (.cells #[x1, y1, z1] 95 (0, 0))).alloc (.cells #[x2, y2, z2] 95 (0, 0))) x3 y3 z3
    rw [s2, s1] at this
    exact this
theorem Three.below {w W W' : World} {b1 b2 b3 : Nat} {x1 y1 z1 x2 y2 z2 x3 y3 z3 : Value} (T : Three w W b1 b2 b3 x1 y1 z1 x2 y2 z2 x3 y3 z3) (h : Below W.heap.size W W') : Three w W' b1 b2 b3 x1 y1 z1 x2 y2 z2 x3 y3 z3 :=
  ⟨T.p.below h, T.q.below h, T.r.below h, T.h.trans (h.mono T.h.size), T.g.1, T.g.2.1, T.g.2.2.1, Nat.lt_of_lt_of_le T.g.2.2.2 h.size⟩
theorem Three.alloc {w W : World} {b1 b2 b3 : Nat} {x1 y1 z1 x2 y2 z2 x3 y3 z3 : Value} (T : Three w W b1 b2 b3 x1 y1 z1 x2 y2 z2 x3 y3 z3) (o : Obj) : Three w (W.alloc o) b1 b2 b3 x1 y1 z1 x2 y2 z2 x3 y3 z3 := T.below ((Below.refl _ _).alloc (Nat.le_refl _) o)
theorem Three.drew {w W : World} {b1 b2 b3 : Nat} {x1 y1 z1 x2 y2 z2 x3 y3 z3 : Value} (T : Three w W b1 b2 b3 x1 y1 z1 x2 y2 z2 x3 y3 z3) : Three w W.drew b1 b2 b3 x1 y1 z1 x2 y2 z2 x3 y3 z3 := T.below ((Below.refl _ _).drew)

set_option maxHeartbeats 2000000 in
theorem plus_same (p : Bool) (a b : ByteArray) (m n s u M : Nat) (w : World) (ha : IsB a m) (hb : IsB b n) (hm : m ≤ 1000000000000000) (hn : n ≤ 1000000000000000) (hM : M = max s u) (hM3 : M ≤ 3) (X Y : Nat) (hX : X = m * 10 ^ (M - s)) (hY : Y = n * 10 ^ (M - u)) (hX1 : X ≤ 1000000000000000000) (hY1 : Y ≤ 1000000000000000000) : Calls Tryz.prog 123 #[.agg #[.bool p, .string a, .int .i64 s], .agg #[.bool p, .string b, .int .i64 u]] w fun e w' => RetBig p (X + Y) M e ∧ Below w.heap.size w w' := by
  have hmax : max (s : Int) (u : Int) = (M : Int) := by omega
  have C1 : Hid (∀ w, Calls Tryz.prog 172 #[.agg #[.bool p, .string a, .int .i64 s], .int .i64 M] w fun e w' => RetBig p X M e ∧ Below w.heap.size w w') := fun w => by rw [hX]; exact wider_any p a m s M w ha hm (by omega) hM3
  have C2 : Hid (∀ w, Calls Tryz.prog 172 #[.agg #[.bool p, .string b, .int .i64 u], .int .i64 M] w fun e w' => RetBig p Y M e ∧ Below w.heap.size w w') := fun w => by rw [hY]; exact wider_any p b n u M w hb hn (by omega) hM3
  have T := Lib.hid (three w (.bool p) (.string a) (.int .i64 s) (.bool p) (.string b) (.int .i64 u) (.bool false) (.string ⟨#[]⟩) (.int .i64 0))
  clear ha hb hX hY hM
  go_enter Tryz.func123, Tryz.ntmps123
  go_wp2_with (first
    | (have _ := ht1; go_at_call 172; (with_reducible refine (C2.out _).mono ?_); rintro e w2 ⟨⟨t2, rfl, ht2⟩, hb2⟩; have x2 := x1.below hb2; have T2 := Lib.hid ((T1.out.alloc _).below hb2); have q0 := x2.c0; have q1 := x2.c1; have q2 := x2.c2; have l3 := x2.lt; have x3 := Lib.hid (x2.alloc (.cells #[.bool p, .string t2, .int .i64 M] 95 (0, 0))); have y3 := Lib.hid (BigAt.new w2 (.bool p) (.string t2) (.int .i64 M)); have T3 := Lib.hid (T2.out.alloc (.cells #[.bool p, .string t2, .int .i64 M] 95 (0, 0))))
    | (go_at_call 172; (with_reducible refine (C1.out _).mono ?_); rintro e w1 ⟨⟨t1, rfl, ht1⟩, hb1⟩; have T1 := Lib.hid (T.out.below hb1); have x1 := BigAt.new w1 (.bool p) (.string t1) (.int .i64 M); have l1 := T1.out.q.lt; have l2 := T1.out.p.lt; have e0 := T1.out.q.c0; have e1 := T1.out.q.c1; have e2 := T1.out.q.c2; have e3 := T1.out.p.c2))
  have C3 := Lib.hid fun w => add_any t1 t2 X Y w ht1 ht2 (by omega) (by omega)
  generalize w2.alloc (.cells #[.bool p, .string t2, .int .i64 M] 95 (0, 0)) = w3 at *
  have X3 := Lib.hid x3.out.drew
  have Y3 := Lib.hid y3.out.drew
  have T3' := Lib.hid T3.out.drew
  have hne : Hid (w1.heap.size < w2.heap.size) := l3
  have hr3 : Hid (w.heap.size + 1 + 1 < w1.heap.size) := T1.out.r.lt
  generalize w1.heap.size = bx at *
  generalize w2.heap.size = bb at *
  obtain ⟨b3, hb3⟩ : ∃ b3, Hid (b3 = w.heap.size + 1 + 1) := ⟨_, rfl⟩
  rw [← hb3.out] at T3 T3' hr3
  rw [← hb3.out]
  have c0 := x3.out.c0; have c1 := x3.out.c1; have c2 := x3.out.c2; have d1 := y3.out.c1
  clear x1 x2 q0 q1 q2 e0 e1 e2 e3 l1 l2 l3 C1 C2 hb1 hb2
  go_region_held3 (fun W => W.cell? ⟨bx, 0, none⟩ = some (.bool p) ∧ W.cell? ⟨bx, 1, none⟩ = some (.string t1) ∧ W.cell? ⟨bx, 2, none⟩ = some (.int .i64 M) ∧ W.cell? ⟨bb, 1, none⟩ = some (.string t2)) (first | exact ⟨c0, c1, c2, d1⟩ | exact ⟨k0, k1, k2, k3⟩ | go_keep) (first | (go_at_call 52; (with_reducible refine (C3.out _).mono ?_); rintro e w4 ⟨⟨t, rfl, ht⟩, hb4⟩; have T4 := Lib.hid (T3'.out.below hb4); have X4 := X3.out.below hb4; have Y4 := Y3.out.below hb4; have k0 := X4.c0; have k1 := X4.c1; have k2 := X4.c2; have k3 := Y4.c1; have r0 := T4.out.r.c0; have r1 := T4.out.r.c1; have r2 := T4.out.r.c2; have z0 := T4.out.r.z (i := 0); have z1 := T4.out.r.z (i := 1); have z2 := T4.out.r.z (i := 2); have n1 : b3 ≠ bx := Nat.ne_of_lt hr3.out; have n2 : b3 ≠ bb := (by have := hr3.out; have := hne.out; have := Y4.lt; have := X4.lt; omega)))
  go_wp2
  refine bodyPost_ret (v := .agg #[.bool p, .string t, .int .i64 M]) (by simp [results, Tryz.results123, go_sem, r0, r1, r2]) rfl ?_
  have g3 : w.heap.size ≤ b3 := by have := hb3.out; omega
  exact ⟨⟨t, rfl, ht⟩, ((T4.out.h.setCell (p := ⟨b3, 0, none⟩) g3 _).setCell (p := ⟨b3, 1, none⟩) g3 _).setCell (p := ⟨b3, 2, none⟩) g3 _⟩
end Go.EvProp
