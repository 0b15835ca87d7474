/-
  The decimals that numbers make.
-/
import Derived.Test.YtcooocbhkkmiaaaGreatDoorWalkF
set_option linter.all false
namespace Go.EvProp
open Go Go.Proofs Go.RowKit Go.Lib
set_option maxRecDepth 100000

/-- A right decimal comes back, with a scale of 3 at most. -/
def RetFit (e : Ending) : Prop := ∃ (N : Int) (S : Nat), e = .returned (.tuple #[.agg #[.int .i64 N, .int .i64 S], .bool true]) ∧ RightD N S ∧ S ≤ 3

theorem BigAt.set1 {W : World} {b : Nat} {x y z : Value} (h : BigAt W b x y z) (u : Value) : BigAt (W.setCell ⟨b, 1, none⟩ u) b x u z := by
  refine ⟨?_⟩
  simp [World.setCell, Array.getElem?_modify, h.h]
theorem BigAt.set2 {W : World} {b : Nat} {x y z : Value} (h : BigAt W b x y z) (u : Value) : BigAt (W.setCell ⟨b, 2, none⟩ u) b x y u := by
  refine ⟨?_⟩
  simp [World.setCell, Array.getElem?_modify, h.h]

/-- What the loop of fit keeps. -/
structure FitI (w wr : World) (b1 b2 : Nat) (neg : Bool) (n k : Nat) (t : ByteArray) : Prop where
  x : BigAt wr b1 (.bool neg) (.string t) (.int .i64 k)
  r : wr.heap[b2]? = some (.cells #[.int .i64 0, .int .i64 0] 39 (0, 0))
  t : IsB t n
  n : n ≤ 1000000000000000
  k : k ≤ 3
  b : Below w.heap.size w wr
  g : w.heap.size ≤ b1 ∧ w.heap.size ≤ b2 ∧ b1 < b2

theorem FitI.below {w wr w' : World} {b1 b2 : Nat} {neg : Bool} {n k : Nat} {t : ByteArray} (I : FitI w wr b1 b2 neg n k t) (h : Below wr.heap.size wr w') : FitI w w' b1 b2 neg n k t :=
  ⟨I.x.below h, (h.block b2 (Array.getElem?_eq_some_iff.1 I.r).1).trans I.r, I.t, I.n, I.k, I.b.trans (h.mono I.b.size), I.g⟩
theorem FitI.drew {w wr : World} {b1 b2 : Nat} {neg : Bool} {n k : Nat} {t : ByteArray} (I : FitI w wr b1 b2 neg n k t) : FitI w wr.drew b1 b2 neg n k t := I.below ((Below.refl _ _).drew)
theorem FitI.step {w wr : World} {b1 b2 : Nat} {neg : Bool} {n k k' m : Nat} {t u : ByteArray} (I : FitI w wr b1 b2 neg n k t) (hu : IsB u m) (hm : m ≤ n) (hk : k' + 1 = k) : FitI w ((wr.setCell ⟨b1, 1, none⟩ (.string u)).setCell ⟨b1, 2, none⟩ (.int .i64 (k' : Nat))) b1 b2 neg m k' u :=
  ⟨(I.x.set1 _).set2 _, by rw [Below.heap_setCell _ _ _ _ (by have := I.g; show b2 ≠ b1; omega), Below.heap_setCell _ _ _ _ (by have := I.g; show b2 ≠ b1; omega)]; exact I.r, hu, Nat.le_trans hm I.n, by have := I.k; omega, (I.b.setCell (p := ⟨b1, 1, none⟩) I.g.1 _).setCell (p := ⟨b1, 2, none⟩) I.g.1 _, I.g⟩

theorem rightD_of {n k : Nat} (neg : Bool) (hn : n ≤ 1000000000000000) (hk : k ≤ 3) (h : k = 0 ∨ n % 10 ≠ 0) (N : Int) (hN : N = if neg = true then -(n : Int) else n) : RightD N k := by
  refine ⟨by omega, by omega, ?_, ?_, ?_⟩
  · rw [hN]; split <;> omega
  · rw [hN]; split <;> omega
  · rcases h with h | h
    · left; omega
    · right
      rw [hN]
      split
      · rw [Int.neg_tmod]; show ¬ -(((n % 10 : Nat)) : Int) = 0; omega
      · show ¬ (((n % 10 : Nat)) : Int) = 0; omega

set_option maxHeartbeats 2000000 in
theorem fit_true (a : ByteArray) (n s : Nat) (w : World) (ha : IsB a n) (hn : n ≤ 1000000000000000) (hs : s ≤ 3) : Calls Tryz.prog 103 #[.agg #[.bool true, .string a, .int .i64 s]] w fun e w' => RetFit e ∧ Below w.heap.size w w' := by
  have C1 : Hid (∀ w, Calls Tryz.prog 108 #[.int .i64 10] w fun e w' => RetB 10 e ∧ Below w.heap.size w w') := fun w => of_any 10 w (by omega)
  have T := two w (.cells #[.bool true, .string a, .int .i64 s] 95 (0, 0)) (.cells #[.int .i64 0, .int .i64 0] 39 (0, 0))
  have I0 : Hid (FitI w ((w.alloc (.cells #[.bool true, .string a, .int .i64 s] 95 (0, 0))).alloc (.cells #[.int .i64 0, .int .i64 0] 39 (0, 0))) w.heap.size (w.heap.size + 1) true n s a) := ⟨⟨T.p⟩, T.q, ha, hn, hs, T.h, by omega, by omega, by omega⟩
  clear T ha hn hs
  go_enter Tryz.func103, Tryz.ntmps103
  go_wp2
  generalize (w.alloc (.cells #[.bool true, .string a, .int .i64 s] 95 (0, 0))).alloc (.cells #[.int .i64 0, .int .i64 0] 39 (0, 0)) = w1 at *
  obtain ⟨b2, hb2⟩ : ∃ b2, b2 = w.heap.size + 1 := ⟨_, rfl⟩
  obtain ⟨b1, hb1⟩ : ∃ b1, b1 = w.heap.size := ⟨_, rfl⟩
  rw [← hb2, ← hb1] at I0
  rw [← hb2, ← hb1]
  clear hb1 hb2
  go_loopw [4, 5, 6] (fun _ _ _ wr => ∃ (m k : Nat) (t : ByteArray), FitI w wr b1 b2 true m k t ∧ k ≤ s) (fun _ _ _ wr => match wr.cell? ⟨b1, 2, none⟩ with | some (.int _ k) => k.toNat | _ => 0)
  case atStart => exact ⟨n, s, a, I0.out, Nat.le_refl _⟩
  case round =>
    obtain ⟨m, k, t, I, hks⟩ := hrel
    have HI := Lib.hid I
    have c1 := I.x.c1
    have c2 := I.x.c2
    have C2 : Hid (∀ t2 w, IsB t2 10 → Calls Tryz.prog 50 #[.string t, .string t2] w fun e w' => RetQ m 10 e ∧ Below w.heap.size w w') := fun t2 w h2 => quo_short t t2 m 10 w I.t h2 (by have := I.n; omega) (by omega) (by omega)
    have hmn := I.n
    clear I
    by_cases hk : 0 < k
    · have i0 : (0 : Int) < (k : Int) := by omega
      obtain ⟨k', hk'⟩ : ∃ k', k' + 1 = k := ⟨k - 1, by omega⟩
      have hsub : (k : Int) - 1 = (k' : Int) := by omega
      go_wp2
      go_region_held3 (fun W => W.cell? ⟨b1, 1, none⟩ = some (.string t)) (first | exact c1 | exact e1 | exact f1 | go_keep) (first | (have _ := ht2; go_at_call 50; (with_reducible refine (C2.out t2 _ ht2).mono ?_); rintro e w3 ⟨⟨q3, r3, rfl, hq3, hr3⟩, hb3⟩; have J := Lib.hid (J2.out.below hb3); have f1 := J.out.x.c1) | (go_at_call 108; (with_reducible refine (C1.out _).mono ?_); rintro e w2 ⟨⟨t2, rfl, ht2⟩, hb2⟩; have J2 := Lib.hid (HI.out.drew.below hb2); have e1 := J2.out.x.c1))
      by_cases hz : m % 10 = 0
      · have hr0 : r3.size = 0 := hr3.zero.2 hz
        have hr1 : ¬ (0 : Int) < (r3.size : Int) := by omega
        have f2 := J.out.x.c2
        have z1 := J.out.x.z (i := 1)
        have z2 := J.out.x.z (i := 2)
        go_wp2
        have hk3 := J.out.k
        rw [show wrap64 (k' : Int) = (k' : Int) from IntWalk.wrap64_in _ ⟨by omega, by omega⟩]
        refine ⟨⟨m / 10, k', q3, ?_, by omega⟩, ?_⟩
        · have := J.out.step hq3 (Nat.div_le_self _ _) hk'
          exact this
        · have := (J.out.step hq3 (Nat.div_le_self _ _) hk').x.c2
          simp only [this, c2]
          omega
      · have hr0 := isB_pos hr3 (by omega)
        have hr1 : (0 : Int) < (r3.size : Int) := by omega
        have JE : Hid (k = 0 ∨ m % 10 ≠ 0) := .inr hz
        have r0 := cellOf (i := 0) J.out.r rfl; have r1 := cellOf (i := 1) J.out.r rfl; have z0 := frozenOf (i := 0) J.out.r; have z1 := frozenOf (i := 1) J.out.r; have d0 := J.out.x.c0; have d1 := J.out.x.c1; have d2 := J.out.x.c2; have k3 : (k : Int) ≤ 6 := (by have := J.out.k; omega); have m3 : (m : Int) ≤ 1000000000000000 := (by have := J.out.n; omega); have n1 : b1 ≠ b2 := (by have := J.out.g; omega); have n2 : b2 ≠ b1 := (by have := J.out.g; omega)
        clear C1 C2 HI J2
        go_wp2_with (go_at_call 119; (with_reducible refine (int_small _ _ _ J.out.t (Nat.lt_of_le_of_lt J.out.n (by decide))).mono ?_); rintro e w9 ⟨rfl, rfl⟩)
        refine bodyPost_ret (by simp [results, Tryz.results103, go_sem, r0, r1]; rfl) rfl ?_
        exact ⟨⟨_, _, rfl, rightD_of true J.out.n J.out.k JE.out _ (by simp), J.out.k⟩, (J.out.b.setCell (p := ⟨b2, 0, none⟩) J.out.g.2.1 _).setCell (p := ⟨b2, 1, none⟩) J.out.g.2.1 _⟩
    · have i0 : ¬ (0 : Int) < (k : Int) := by omega
      have JE : Hid (k = 0 ∨ m % 10 ≠ 0) := .inl (by omega)
      have J := HI
      have r0 := cellOf (i := 0) J.out.r rfl; have r1 := cellOf (i := 1) J.out.r rfl; have z0 := frozenOf (i := 0) J.out.r; have z1 := frozenOf (i := 1) J.out.r; have d0 := J.out.x.c0; have d1 := J.out.x.c1; have d2 := J.out.x.c2; have k3 : (k : Int) ≤ 6 := (by have := J.out.k; omega); have m3 : (m : Int) ≤ 1000000000000000 := (by have := J.out.n; omega); have n1 : b1 ≠ b2 := (by have := J.out.g; omega); have n2 : b2 ≠ b1 := (by have := J.out.g; omega)
      clear C1 C2 HI
      go_wp2_with (go_at_call 119; (with_reducible refine (int_small _ _ _ J.out.t (Nat.lt_of_le_of_lt J.out.n (by decide))).mono ?_); rintro e w9 ⟨rfl, rfl⟩)
      refine bodyPost_ret (by simp [results, Tryz.results103, go_sem, r0, r1]; rfl) rfl ?_
      exact ⟨⟨_, _, rfl, rightD_of true J.out.n J.out.k JE.out _ (by simp), J.out.k⟩, (J.out.b.setCell (p := ⟨b2, 0, none⟩) J.out.g.2.1 _).setCell (p := ⟨b2, 1, none⟩) J.out.g.2.1 _⟩

set_option maxHeartbeats 2000000 in
theorem fit_false (a : ByteArray) (n s : Nat) (w : World) (ha : IsB a n) (hn : n ≤ 1000000000000000) (hs : s ≤ 3) : Calls Tryz.prog 103 #[.agg #[.bool false, .string a, .int .i64 s]] w fun e w' => RetFit e ∧ Below w.heap.size w w' := by
  have C1 : Hid (∀ w, Calls Tryz.prog 108 #[.int .i64 10] w fun e w' => RetB 10 e ∧ Below w.heap.size w w') := fun w => of_any 10 w (by omega)
  have T := two w (.cells #[.bool false, .string a, .int .i64 s] 95 (0, 0)) (.cells #[.int .i64 0, .int .i64 0] 39 (0, 0))
  have I0 : Hid (FitI w ((w.alloc (.cells #[.bool false, .string a, .int .i64 s] 95 (0, 0))).alloc (.cells #[.int .i64 0, .int .i64 0] 39 (0, 0))) w.heap.size (w.heap.size + 1) false n s a) := ⟨⟨T.p⟩, T.q, ha, hn, hs, T.h, by omega, by omega, by omega⟩
  clear T ha hn hs
  go_enter Tryz.func103, Tryz.ntmps103
  go_wp2
  generalize (w.alloc (.cells #[.bool false, .string a, .int .i64 s] 95 (0, 0))).alloc (.cells #[.int .i64 0, .int .i64 0] 39 (0, 0)) = w1 at *
  obtain ⟨b2, hb2⟩ : ∃ b2, b2 = w.heap.size + 1 := ⟨_, rfl⟩
  obtain ⟨b1, hb1⟩ : ∃ b1, b1 = w.heap.size := ⟨_, rfl⟩
  rw [← hb2, ← hb1] at I0
  rw [← hb2, ← hb1]
  clear hb1 hb2
  go_loopw [4, 5, 6] (fun _ _ _ wr => ∃ (m k : Nat) (t : ByteArray), FitI w wr b1 b2 false m k t ∧ k ≤ s) (fun _ _ _ wr => match wr.cell? ⟨b1, 2, none⟩ with | some (.int _ k) => k.toNat | _ => 0)
  case atStart => exact ⟨n, s, a, I0.out, Nat.le_refl _⟩
  case round =>
    obtain ⟨m, k, t, I, hks⟩ := hrel
    have HI := Lib.hid I
    have c1 := I.x.c1
    have c2 := I.x.c2
    have C2 : Hid (∀ t2 w, IsB t2 10 → Calls Tryz.prog 50 #[.string t, .string t2] w fun e w' => RetQ m 10 e ∧ Below w.heap.size w w') := fun t2 w h2 => quo_short t t2 m 10 w I.t h2 (by have := I.n; omega) (by omega) (by omega)
    have hmn := I.n
    clear I
    by_cases hk : 0 < k
    · have i0 : (0 : Int) < (k : Int) := by omega
      obtain ⟨k', hk'⟩ : ∃ k', k' + 1 = k := ⟨k - 1, by omega⟩
      have hsub : (k : Int) - 1 = (k' : Int) := by omega
      go_wp2
      go_region_held3 (fun W => W.cell? ⟨b1, 1, none⟩ = some (.string t)) (first | exact c1 | exact e1 | exact f1 | go_keep) (first | (have _ := ht2; go_at_call 50; (with_reducible refine (C2.out t2 _ ht2).mono ?_); rintro e w3 ⟨⟨q3, r3, rfl, hq3, hr3⟩, hb3⟩; have J := Lib.hid (J2.out.below hb3); have f1 := J.out.x.c1) | (go_at_call 108; (with_reducible refine (C1.out _).mono ?_); rintro e w2 ⟨⟨t2, rfl, ht2⟩, hb2⟩; have J2 := Lib.hid (HI.out.drew.below hb2); have e1 := J2.out.x.c1))
      by_cases hz : m % 10 = 0
      · have hr0 : r3.size = 0 := hr3.zero.2 hz
        have hr1 : ¬ (0 : Int) < (r3.size : Int) := by omega
        have f2 := J.out.x.c2
        have z1 := J.out.x.z (i := 1)
        have z2 := J.out.x.z (i := 2)
        go_wp2
        have hk3 := J.out.k
        rw [show wrap64 (k' : Int) = (k' : Int) from IntWalk.wrap64_in _ ⟨by omega, by omega⟩]
        refine ⟨⟨m / 10, k', q3, ?_, by omega⟩, ?_⟩
        · have := J.out.step hq3 (Nat.div_le_self _ _) hk'
          exact this
        · have := (J.out.step hq3 (Nat.div_le_self _ _) hk').x.c2
          simp only [this, c2]
          omega
      · have hr0 := isB_pos hr3 (by omega)
        have hr1 : (0 : Int) < (r3.size : Int) := by omega
        have JE : Hid (k = 0 ∨ m % 10 ≠ 0) := .inr hz
        have r0 := cellOf (i := 0) J.out.r rfl; have r1 := cellOf (i := 1) J.out.r rfl; have z0 := frozenOf (i := 0) J.out.r; have z1 := frozenOf (i := 1) J.out.r; have d0 := J.out.x.c0; have d1 := J.out.x.c1; have d2 := J.out.x.c2; have k3 : (k : Int) ≤ 6 := (by have := J.out.k; omega); have m3 : (m : Int) ≤ 1000000000000000 := (by have := J.out.n; omega); have n1 : b1 ≠ b2 := (by have := J.out.g; omega); have n2 : b2 ≠ b1 := (by have := J.out.g; omega)
        clear C1 C2 HI J2
        go_wp2_with (go_at_call 119; (with_reducible refine (int_small _ _ _ J.out.t (Nat.lt_of_le_of_lt J.out.n (by decide))).mono ?_); rintro e w9 ⟨rfl, rfl⟩)
        refine bodyPost_ret (by simp [results, Tryz.results103, go_sem, r0, r1]; rfl) rfl ?_
        exact ⟨⟨_, _, rfl, rightD_of false J.out.n J.out.k JE.out _ (by simp), J.out.k⟩, (J.out.b.setCell (p := ⟨b2, 0, none⟩) J.out.g.2.1 _).setCell (p := ⟨b2, 1, none⟩) J.out.g.2.1 _⟩
    · have i0 : ¬ (0 : Int) < (k : Int) := by omega
      have JE : Hid (k = 0 ∨ m % 10 ≠ 0) := .inl (by omega)
      have J := HI
      have r0 := cellOf (i := 0) J.out.r rfl; have r1 := cellOf (i := 1) J.out.r rfl; have z0 := frozenOf (i := 0) J.out.r; have z1 := frozenOf (i := 1) J.out.r; have d0 := J.out.x.c0; have d1 := J.out.x.c1; have d2 := J.out.x.c2; have k3 : (k : Int) ≤ 6 := (by have := J.out.k; omega); have m3 : (m : Int) ≤ 1000000000000000 := (by have := J.out.n; omega); have n1 : b1 ≠ b2 := (by have := J.out.g; omega); have n2 : b2 ≠ b1 := (by have := J.out.g; omega)
      clear C1 C2 HI
      go_wp2_with (go_at_call 119; (with_reducible refine (int_small _ _ _ J.out.t (Nat.lt_of_le_of_lt J.out.n (by decide))).mono ?_); rintro e w9 ⟨rfl, rfl⟩)
      refine bodyPost_ret (by simp [results, Tryz.results103, go_sem, r0, r1]; rfl) rfl ?_
      exact ⟨⟨_, _, rfl, rightD_of false J.out.n J.out.k JE.out _ (by simp), J.out.k⟩, (J.out.b.setCell (p := ⟨b2, 0, none⟩) J.out.g.2.1 _).setCell (p := ⟨b2, 1, none⟩) J.out.g.2.1 _⟩

theorem fit_any (neg : Bool) (a : ByteArray) (n s : Nat) (w : World) (ha : IsB a n) (hn : n ≤ 1000000000000000) (hs : s ≤ 3) : Calls Tryz.prog 103 #[.agg #[.bool neg, .string a, .int .i64 s]] w fun e w' => RetFit e ∧ Below w.heap.size w w' := by
  cases neg
  · exact fit_false a n s w ha hn hs
  · exact fit_true a n s w ha hn hs

set_option maxHeartbeats 2000000 in
theorem make4_any (N : Int) (s : Nat) (w : World) (h0 : -1000000000000000 ≤ N) (h1 : N ≤ 1000000000000000) (hs : s ≤ 3) : Calls Tryz.prog 43 #[.int .i64 N, .int .i64 s] w fun e w' => RetFit e ∧ Below w.heap.size w w' := by
  have C1 := Lib.hid fun w => natural_any N w (by omega) (by omega)
  have C2 : Hid (∀ t w, IsB t N.natAbs → Calls Tryz.prog 103 #[.agg #[.bool (decide (N < 0)), .string t, .int .i64 s]] w fun e w' => RetFit e ∧ Below w.heap.size w w') := fun t w ht => fit_any _ t N.natAbs s w ht (by omega) hs
  have i0 : ¬ (s : Int) < 0 := by omega
  have i1 : (s : Int) ≤ 18 := by omega
  go_enter Tryz.func43, Tryz.ntmps43
  go_wp2_with (first
    | (have _ := ht1; go_at_call 103; (with_reducible refine (C2.out t1 _ ht1).mono ?_); rintro e w2 ⟨⟨N2, S2, rfl, hR, hS⟩, hb2⟩; have B2 := Lib.hid (B1.out.trans (hb2.mono B1.out.size)); have hr2 : w2.heap[w.heap.size]? = some (.cells #[.int .i64 0, .int .i64 0] 39 (0, 0)) := ((hb2.block _ (Array.getElem?_eq_some_iff.1 hr1).1).trans hr1); have r0 := cellOf (i := 0) hr2 rfl; have r1 := cellOf (i := 1) hr2 rfl; have z0 := frozenOf (i := 0) hr2; have z1 := frozenOf (i := 1) hr2)
    | (go_at_call 104; (with_reducible refine (C1.out _).mono ?_); rintro e w1 ⟨⟨t1, rfl, ht1⟩, hb1⟩; have B1 := Lib.hid (((Below.refl w.heap.size w).alloc (Nat.le_refl _) (.cells #[.int .i64 0, .int .i64 0] 39 (0, 0))).trans (hb1.mono (by simp))); have hr1 : w1.heap[w.heap.size]? = some (.cells #[.int .i64 0, .int .i64 0] 39 (0, 0)) := ((hb1.block _ (by simp)).trans (heapNew w _))))
  refine bodyPost_ret (by simp [results, Tryz.results43, go_sem, r0, r1]; rfl) rfl ?_
  exact ⟨⟨N2, S2, rfl, hR, hS⟩, (B2.out.setCell (p := ⟨w.heap.size, 0, none⟩) (Nat.le_refl _) _).setCell (p := ⟨w.heap.size, 1, none⟩) (Nat.le_refl _) _⟩
end Go.EvProp
