/-
  The contracts of Next, Dec and Value, for every list of numbers.
-/
import Derived.Test.YtcooocbhkkmiaaaGreatDoorWalkG
import Derived.Test.YtcooocbhkkmiaaaGreatDoorRdr
import Derived.Lib.SmallJoins
set_option linter.all false
namespace Go.EvProp
open Go Go.Proofs Go.RowKit Go.Lib

/-- A slice of numbers that can be read. -/
def Nums (w : World) (a : Option Addr) (n : Nat) : Prop := n = 0 ∨ ∃ b o, a = some ⟨b, o, none⟩ ∧ ∀ i, i < n → ∃ x : Int, w.cell? ⟨b, o + i, none⟩ = some (.int .i64 x)

theorem rem_bd (x n : Int) (hn : 0 < n) (hb : n ≤ 2000000000000001) : 0 ≤ (wrap64 (x.tmod n + n)).tmod n ∧ (wrap64 (x.tmod n + n)).tmod n < n := by
  have h1 := Int.tmod_lt_of_pos x hn
  have h2 : -n < x.tmod n := by
    have := Int.lt_tmod_of_pos x hn
    omega
  have h3 : wrap64 (x.tmod n + n) = x.tmod n + n := IntWalk.wrap64_in _ ⟨by omega, by omega⟩
  rw [h3]
  exact ⟨Int.tmod_nonneg _ (by omega), Int.tmod_lt_of_pos _ hn⟩

/-- A number from 0 to n - 1 comes back. -/
def RetIn (n : Int) (e : Ending) : Prop := ∃ r : Int, 0 ≤ r ∧ r < n ∧ e = .returned (.int .i64 r)

/-- Numbers that are read one after the other: block b holds the list and the place. -/
def Num (w : World) (b : Nat) (a : Option Addr) (n : Nat) : Prop := ∃ c K : Nat, w.heap[b]? = some (.cells #[.slice a n c, .int .i64 K] 26 (0, 0)) ∧ Nums w a n ∧ (∀ q, a = some q → q.block ≠ b)

/-- What Next does: a number from 0 to n - 1; nothing but the place has turned. -/
def Nexts (w : World) (b : Nat) (a : Option Addr) (len : Nat) (n : Int) (e : Ending) (w' : World) : Prop :=
  RetIn n e ∧ Num w' b a len ∧ w'.heap.size = w.heap.size ∧ (∀ k, k ≠ b → w'.heap[k]? = w.heap[k]?) ∧ w'.os = w.os ∧ w'.tape = w.tape ∧ w'.output = w.output

set_option maxRecDepth 100000 in
set_option maxHeartbeats 1000000 in
theorem next_any (w : World) (b : Nat) (a : Option Addr) (len : Nat) (n : Int) (hn : 0 < n) (hb : n ≤ 2000000000000001) (hm : len ≤ maxLen) (h : Num w b a len) : Calls Tryz.prog 16 #[.pointer (some ⟨b, 0, none⟩), .int .i64 n] w fun e w' => Nexts w b a len n e w' := by
  obtain ⟨c, K, hblk, hl, hne⟩ := h
  unfold maxLen at hm
  have c0 : w.cell? ⟨b, 0, none⟩ = some (.slice a len c) := by simp [World.cell?, hblk]
  have c1 : w.cell? ⟨b, 1, none⟩ = some (.int .i64 K) := by simp [World.cell?, hblk]
  have f1 : w.frozen? ⟨b, 1, none⟩ = false := by simp [World.frozen?, hblk]
  by_cases hK : len ≤ K
  · have hd : decide ((len : Int) ≤ (K : Int)) = true := by simpa using hK
    go_enter Tryz.func16, Tryz.ntmps16
    go_wp2
    go_quiet (fail)
    go_wp2
    go_ret
    exact ⟨⟨0, by omega, by omega, rfl⟩, ⟨c, K, hblk, hl, hne⟩, rfl, fun _ _ => rfl, rfl, rfl, rfl⟩
  · have hd : decide ((len : Int) ≤ (K : Int)) = false := by simp; omega
    have hd2 : decide (n < 1) = false := by simp; omega
    rcases hl with hl | ⟨lb, lo, rfl, hcell⟩
    · omega
    · obtain ⟨x, hx⟩ := hcell K (by omega)
      have hne' := hne _ rfl
      have hnz : (n == 0) = false := by simp; omega
      have hr := rem_bd x n hn hb
      go_enter Tryz.func16, Tryz.ntmps16
      go_wp2
      go_quiet (fail)
      go_wp2
      have hw1 : ∃ w1, w1 = (w.drewN nq).setCell ⟨b, 1, none⟩ (Value.int .i64 (↑K + 1)) := ⟨_, rfl⟩
      obtain ⟨w1, hw1⟩ := hw1
      have Hb1 : Hid (w1.heap[b]? = some (.cells #[.slice (some ⟨lb, lo, none⟩) len c, .int .i64 (↑K + 1)] 26 (0, 0))) := by
        subst hw1; exact Joins.block_setCell (w := w.drewN nq) hblk _
      have Ho1 : Hid (∀ k, k ≠ b → w1.heap[k]? = w.heap[k]?) := fun k hk => by
        subst hw1; rw [Below.heap_setCell _ _ _ _ hk]; rfl
      have Hz1 : Hid (w1.heap.size = w.heap.size ∧ w1.os = w.os ∧ w1.tape = w.tape ∧ w1.output = w.output) := by
        have hb0 := (Below.refl 0 (w.drewN nq)).setCell (p := ⟨b, 1, none⟩) (Nat.zero_le _) (Value.int .i64 (↑K + 1))
        subst hw1
        exact ⟨by simp, hb0.os, hb0.tape, hb0.output⟩
      rw [← hw1]
      have d0 : w1.cell? ⟨b, 0, none⟩ = some (.slice (some ⟨lb, lo, none⟩) len c) := by simp [World.cell?, Hb1.out]
      have d1 : w1.cell? ⟨b, 1, none⟩ = some (.int .i64 (↑K + 1)) := by simp [World.cell?, Hb1.out]
      have d2 : w1.cell? ⟨lb, lo + K, none⟩ = some (.int .i64 x) := by rw [World.cell?_of_block (w := w) (Ho1.out lb hne')]; exact hx
      have i1 : 0 ≤ (K : Int) + 1 - 1 := by omega
      have i2 : ((K : Int) + 1 - 1) < len := by omega
      have i3 : ((K : Int) + 1 - 1).toNat = K := by omega
      clear c0 c1 f1 hd hd2 hw1 hblk hx
      go_quiet (fail)
      go_wp2
      go_ret
      exact ⟨⟨_, hr.1, hr.2, rfl⟩, ⟨c, K + 1, by rw [Int.natCast_add]; exact Hb1.out, .inr ⟨lb, lo, rfl, fun i hi => by obtain ⟨y, hy⟩ := hcell i hi; exact ⟨y, by rw [← hy]; exact World.cell?_of_block (w := w) (Ho1.out lb hne')⟩⟩, hne⟩, Hz1.out.1, Ho1.out, Hz1.out.2.1, Hz1.out.2.2.1, Hz1.out.2.2.2⟩


theorem Nums.below {w w' : World} {a : Option Addr} {n : Nat} (h : Nums w a n) (hb : Below w.heap.size w w') : Nums w' a n := by
  rcases h with h | ⟨b, o, rfl, h⟩
  · exact .inl h
  · refine .inr ⟨b, o, rfl, fun i hi => ?_⟩
    obtain ⟨x, hx⟩ := h i hi
    exact ⟨x, (hb.cell (World.block_lt_of_cell? w _ hx)).trans hx⟩
theorem Num.below {w w' : World} {b : Nat} {a : Option Addr} {n : Nat} (h : Num w b a n) (hb : Below w.heap.size w w') : Num w' b a n := by
  obtain ⟨c, K, h1, h2, h3⟩ := h
  exact ⟨c, K, (hb.block b (Array.getElem?_eq_some_iff.1 h1).1).trans h1, h2.below hb, h3⟩
theorem Num.lt {w : World} {b : Nat} {a : Option Addr} {n : Nat} (h : Num w b a n) : b < w.heap.size := by
  obtain ⟨c, K, h1, h2, h3⟩ := h
  exact (Array.getElem?_eq_some_iff.1 h1).1
theorem Num.alloc {w : World} {b : Nat} {a : Option Addr} {n : Nat} (h : Num w b a n) (o : Obj) : Num (w.alloc o) b a n := h.below ((Below.refl _ _).alloc (Nat.le_refl _) o)

/-- Next, as its callers meet it. -/
theorem next_stays (w : World) (b : Nat) (a : Option Addr) (len : Nat) (n : Int) (hn : 0 < n) (hb : n ≤ 2000000000000001) (hm : len ≤ maxLen) (h : Num w b a len) : Calls Tryz.prog 16 #[.pointer (some ⟨b, 0, none⟩), .int .i64 n] w fun e w' => RetIn n e ∧ Num w' b a len ∧ Stays b w w' :=
  (next_any w b a len n hn hb hm h).mono fun e w' ⟨h1, h2, h3, h4, h5, h6, h7⟩ => ⟨h1, h2, ⟨h5, h6, h7, by omega, fun k _ hk => h4 k hk⟩⟩

theorem Stays.refl (g : Nat) (w : World) : Stays g w w := ⟨rfl, rfl, rfl, Nat.le_refl _, fun _ _ _ => rfl⟩
theorem Stays.alloc {g : Nat} {w w' : World} (h : Stays g w w') (o : Obj) : Stays g w (w'.alloc o) := h.trans (Stays.below ((Below.refl _ _).alloc (Nat.le_refl _) o))
theorem Stays.cells {g b : Nat} {w w' : World} (h : Stays g w w') (hne : b ≠ g) {cs : Array Value} {t : TypeId} (hb : w.heap[b]? = some (.cells cs t (0, 0))) : w'.heap[b]? = some (.cells cs t (0, 0)) := (h.block b (Array.getElem?_eq_some_iff.1 hb).1 hne).trans hb
theorem Stays.setNew {g b : Nat} {w w' : World} (h : Stays g w w') (hb : w.heap.size ≤ b) (i : Nat) (u : Value) : Stays g w (w'.setCell ⟨b, i, none⟩ u) := by
  have hb0 := (Below.refl 0 w').setCell (p := ⟨b, i, none⟩) (Nat.zero_le _) u
  exact ⟨hb0.os.trans h.os, hb0.tape.trans h.tape, hb0.output.trans h.output, Nat.le_trans h.size (by simp), fun k hk hne => by rw [Below.heap_setCell _ _ _ _ (by show k ≠ b; omega)]; exact h.block k hk hne⟩

/-- A right decimal comes back. -/
def RetDec (e : Ending) : Prop := ∃ (N : Int) (S : Nat), e = .returned (.agg #[.int .i64 N, .int .i64 S]) ∧ RightD N S ∧ S ≤ 3

theorem Num.setNew {w w' : World} {b r : Nat} {a : Option Addr} {n : Nat} (h : Num w b a n) (h' : Num w' b a n) (hr : w.heap.size ≤ r) (i : Nat) (u : Value) : Num (w'.setCell ⟨r, i, none⟩ u) b a n := by
  obtain ⟨c, K, h1, h2, h3⟩ := h
  obtain ⟨c', K', h1', h2', h3'⟩ := h'
  have hb := (Array.getElem?_eq_some_iff.1 h1).1
  refine ⟨c', K', by rw [Below.heap_setCell _ _ _ _ (by show b ≠ r; omega)]; exact h1', ?_, h3⟩
  rcases h2 with h2 | ⟨lb, lo, rfl, h2⟩
  · exact .inl h2
  · rcases h2' with h2' | ⟨lb', lo', e, h2'⟩
    · exact .inl h2'
    · cases e
      refine .inr ⟨lb, lo, rfl, fun j hj => ?_⟩
      obtain ⟨x, hx⟩ := h2 j hj
      obtain ⟨y, hy⟩ := h2' j hj
      have hlt := World.block_lt_of_cell? w _ hx
      have hlt : lb < w.heap.size := hlt
      exact ⟨y, by rw [← hy]; exact World.cell?_of_block (w := w') (Below.heap_setCell _ _ _ _ (by show lb ≠ r; omega))⟩

/-- What lies behind a call that reads numbers: the numbers, what stays, and the variable for the result. -/
structure NumS (w w' : World) (b : Nat) (a : Option Addr) (len r : Nat) (cs : Array Value) (ty : TypeId) : Prop where
  n : Num w' b a len
  s : Stays b w w'
  r : w'.heap[r]? = some (.cells cs ty (0, 0))
theorem NumS.stays {w w1 w2 : World} {b r : Nat} {a : Option Addr} {len : Nat} {cs : Array Value} {ty : TypeId} (h : NumS w w1 b a len r cs ty) (hn : Num w2 b a len) (hs : Stays b w1 w2) (hr : r ≠ b) : NumS w w2 b a len r cs ty := ⟨hn, h.s.trans hs, hs.cells hr h.r⟩
theorem NumS.below {w w1 w2 : World} {b r : Nat} {a : Option Addr} {len : Nat} {cs : Array Value} {ty : TypeId} (h : NumS w w1 b a len r cs ty) (hb : Below w1.heap.size w1 w2) : NumS w w2 b a len r cs ty := ⟨h.n.below hb, h.s.trans (Stays.below hb), (hb.block r (Array.getElem?_eq_some_iff.1 h.r).1).trans h.r⟩
theorem NumS.alloc {w w1 : World} {b r : Nat} {a : Option Addr} {len : Nat} {cs : Array Value} {ty : TypeId} (h : NumS w w1 b a len r cs ty) (o : Obj) : NumS w (w1.alloc o) b a len r cs ty := h.below ((Below.refl _ _).alloc (Nat.le_refl _) o)
theorem NumS.new {w : World} {b : Nat} {a : Option Addr} {len : Nat} (h : Num w b a len) (cs : Array Value) (ty : TypeId) : NumS w (w.alloc (.cells cs ty (0, 0))) b a len w.heap.size cs ty := ⟨h.alloc _, (Stays.refl b w).alloc _, heapNew w _⟩

set_option maxRecDepth 100000 in
set_option maxHeartbeats 2000000 in
theorem dec_any (w : World) (b : Nat) (a : Option Addr) (len : Nat) (hm : len ≤ maxLen) (h : Num w b a len) : Calls Tryz.prog 15 #[.pointer (some ⟨b, 0, none⟩)] w fun e w' => RetDec e ∧ Num w' b a len ∧ Stays b w w' := by
  have C1 : Hid (∀ w, Num w b a len → Calls Tryz.prog 16 #[.pointer (some ⟨b, 0, none⟩), .int .i64 2001] w fun e w' => RetIn 2001 e ∧ Num w' b a len ∧ Stays b w w') := fun w h3 => next_stays w b a len 2001 (by omega) (by omega) hm h3
  have C2 : Hid (∀ w, Num w b a len → Calls Tryz.prog 16 #[.pointer (some ⟨b, 0, none⟩), .int .i64 8] w fun e w' => RetIn 8 e ∧ Num w' b a len ∧ Stays b w w') := fun w h3 => next_stays w b a len 8 (by omega) (by omega) hm h3
  have C3 : Hid (∀ w, Num w b a len → Calls Tryz.prog 16 #[.pointer (some ⟨b, 0, none⟩), .int .i64 2000000000000001] w fun e w' => RetIn 2000000000000001 e ∧ Num w' b a len ∧ Stays b w w') := fun w h3 => next_stays w b a len 2000000000000001 (by omega) (by omega) hm h3
  have C4 : Hid (∀ w, Num w b a len → Calls Tryz.prog 16 #[.pointer (some ⟨b, 0, none⟩), .int .i64 4] w fun e w' => RetIn 4 e ∧ Num w' b a len ∧ Stays b w w') := fun w h3 => next_stays w b a len 4 (by omega) (by omega) hm h3
  have HN := Lib.hid h
  have M0 := Lib.hid (NumS.new h #[.int .i64 0, .int .i64 0] 39)
  have hne : Hid (w.heap.size ≠ b) := (by have := h.lt; show w.heap.size ≠ b; omega)
  clear h hm
  go_enter Tryz.func15, Tryz.ntmps15
  go_wp2_with (first
    | (go_at_call 16; (with_reducible refine (C1.out _ M0.out.n).mono ?_); rintro e w1 ⟨⟨r1, hr1, hr1', rfl⟩, n1, s1⟩; have M1 := Lib.hid (M0.out.stays n1 s1 hne.out); have MF := M1)
    | (go_at_call 16; (with_reducible refine (C2.out _ M1.out.n).mono ?_); rintro e w2 ⟨⟨r2, hr2, hr2', rfl⟩, n2, s2⟩; have M2 := Lib.hid (M1.out.stays n2 s2 hne.out))
    | (go_at_call 16; (with_reducible refine (C3.out _ M2.out.n).mono ?_); rintro e w3 ⟨⟨r3, hr3, hr3', rfl⟩, n3, s3⟩; have M3 := Lib.hid (M2.out.stays n3 s3 hne.out))
    | (go_at_call 16; (with_reducible refine (C4.out _ M3.out.n).mono ?_); rintro e w4 ⟨⟨r4, hr4, hr4', rfl⟩, n4, s4⟩; have M4 := Lib.hid (M3.out.stays n4 s4 hne.out); obtain ⟨k4, rfl⟩ : ∃ s : Nat, r4 = (s : Int) := ⟨r4.toNat, by omega⟩)
    | (go_at_call 16; (with_reducible refine (C4.out _ M2.out.n).mono ?_); rintro e w4 ⟨⟨r4, hr4, hr4', rfl⟩, n4, s4⟩; have M4 := Lib.hid (M2.out.stays n4 s4 hne.out); obtain ⟨k4, rfl⟩ : ∃ s : Nat, r4 = (s : Int) := ⟨r4.toNat, by omega⟩)
    | (go_at_call 43; refine (make4_any _ k4 _ (by omega) (by omega) (by omega)).mono ?_; rintro e w5 ⟨⟨N5, S5, rfl, hR5, hS5⟩, hb5⟩; have M5 := Lib.hid (M4.out.below hb5); have q0 := cellOf (i := 0) M5.out.r rfl; have q1 := cellOf (i := 1) M5.out.r rfl; have z0 := frozenOf (i := 0) M5.out.r; have z1 := frozenOf (i := 1) M5.out.r; have l5 := (Array.getElem?_eq_some_iff.1 M5.out.r).1))
  all_goals
    refine bodyPost_ret (by simp [results, Tryz.results15, go_sem, q0, q1, l5]; rfl) rfl ?_
    exact ⟨⟨N5, S5, rfl, hR5, hS5⟩, (HN.out.setNew (HN.out.setNew M5.out.n (Nat.le_refl _) 0 _) (Nat.le_refl _) 1 _).alloc _, ((M5.out.s.setNew (Nat.le_refl _) 0 _).setNew (Nat.le_refl _) 1 _).alloc _⟩

/-- A value of the kind Date comes back; of the kind Number. -/
def dateV (N : Int) : Value := .agg #[.int .i64 3, .string ⟨#[]⟩, .int .i64 0, .int .i64 0, .int .i64 N, .slice none 0 0, .slice none 0 0]
def numV (N : Int) (S : Nat) : Value := .agg #[.int .i64 2, .string ⟨#[]⟩, .int .i64 N, .int .i64 S, .int .i64 0, .slice none 0 0, .slice none 0 0]
def RetDate (e : Ending) : Prop := ∃ N : Int, e = .returned (dateV N) ∧ 0 ≤ N ∧ N ≤ 3652058
def RetNum (e : Ending) : Prop := ∃ (N : Int) (S : Nat), e = .returned (numV N S) ∧ RightD N S ∧ S ≤ 3

abbrev zeroV : Array Value := #[.int .i64 0, .string ⟨#[]⟩, .int .i64 0, .int .i64 0, .int .i64 0, .slice none 0 0, .slice none 0 0]

theorem Num.set7 {w w' : World} {b : Nat} {a : Option Addr} {n : Nat} (h : Num w b a n) (h' : Num w' b a n) (u0 u1 u2 u3 u4 u5 u6 : Value) : Num (((((((w'.setCell ⟨w.heap.size, 0, none⟩ u0).setCell ⟨w.heap.size, 1, none⟩ u1).setCell ⟨w.heap.size, 2, none⟩ u2).setCell ⟨w.heap.size, 3, none⟩ u3).setCell ⟨w.heap.size, 4, none⟩ u4).setCell ⟨w.heap.size, 5, none⟩ u5).setCell ⟨w.heap.size, 6, none⟩ u6) b a n :=
  h.setNew (h.setNew (h.setNew (h.setNew (h.setNew (h.setNew (h.setNew h' (Nat.le_refl _) 0 _) (Nat.le_refl _) 1 _) (Nat.le_refl _) 2 _) (Nat.le_refl _) 3 _) (Nat.le_refl _) 4 _) (Nat.le_refl _) 5 _) (Nat.le_refl _) 6 _
theorem Stays.set7 {g : Nat} {w w' : World} (h : Stays g w w') (u0 u1 u2 u3 u4 u5 u6 : Value) : Stays g w (((((((w'.setCell ⟨w.heap.size, 0, none⟩ u0).setCell ⟨w.heap.size, 1, none⟩ u1).setCell ⟨w.heap.size, 2, none⟩ u2).setCell ⟨w.heap.size, 3, none⟩ u3).setCell ⟨w.heap.size, 4, none⟩ u4).setCell ⟨w.heap.size, 5, none⟩ u5).setCell ⟨w.heap.size, 6, none⟩ u6) :=
  ((((((h.setNew (Nat.le_refl _) 0 _).setNew (Nat.le_refl _) 1 _).setNew (Nat.le_refl _) 2 _).setNew (Nat.le_refl _) 3 _).setNew (Nat.le_refl _) 4 _).setNew (Nat.le_refl _) 5 _).setNew (Nat.le_refl _) 6 _

set_option maxRecDepth 100000 in
set_option maxHeartbeats 2000000 in
theorem value_date (w : World) (b : Nat) (a : Option Addr) (len : Nat) (hm : len ≤ maxLen) (h : Num w b a len) : Calls Tryz.prog 5 #[.pointer (some ⟨b, 0, none⟩), .int .i64 3] w fun e w' => RetDate e ∧ Num w' b a len ∧ Stays b w w' := by
  have C1 : Hid (∀ w, Num w b a len → Calls Tryz.prog 16 #[.pointer (some ⟨b, 0, none⟩), .int .i64 1000] w fun e w' => RetIn 1000 e ∧ Num w' b a len ∧ Stays b w w') := fun w h3 => next_stays w b a len 1000 (by omega) (by omega) hm h3
  have C2 : Hid (∀ w, Num w b a len → Calls Tryz.prog 16 #[.pointer (some ⟨b, 0, none⟩), .int .i64 8] w fun e w' => RetIn 8 e ∧ Num w' b a len ∧ Stays b w w') := fun w h3 => next_stays w b a len 8 (by omega) (by omega) hm h3
  have C3 : Hid (∀ w, Num w b a len → Calls Tryz.prog 16 #[.pointer (some ⟨b, 0, none⟩), .int .i64 3652059] w fun e w' => RetIn 3652059 e ∧ Num w' b a len ∧ Stays b w w') := fun w h3 => next_stays w b a len 3652059 (by omega) (by omega) hm h3
  have HN := Lib.hid h
  have M0 := Lib.hid (NumS.new h zeroV 43)
  have hne : Hid (w.heap.size ≠ b) := (by have := h.lt; show w.heap.size ≠ b; omega)
  clear h hm
  go_enter Tryz.func5, Tryz.ntmps5
  go_wp2_with (first
    | (go_at_call 16; (with_reducible refine (C1.out _ M0.out.n).mono ?_); rintro e w1 ⟨⟨r1, hr1, hr1', rfl⟩, n1, s1⟩; have M1 := Lib.hid (M0.out.stays n1 s1 hne.out))
    | (go_at_call 16; (with_reducible refine (C2.out _ M1.out.n).mono ?_); rintro e w2 ⟨⟨r2, hr2, hr2', rfl⟩, n2, s2⟩; have M2 := Lib.hid (M1.out.stays n2 s2 hne.out); have q0 := cellOf (i := 0) M2.out.r rfl; have q1 := cellOf (i := 1) M2.out.r rfl; have q2 := cellOf (i := 2) M2.out.r rfl; have q3 := cellOf (i := 3) M2.out.r rfl; have q4 := cellOf (i := 4) M2.out.r rfl; have q5 := cellOf (i := 5) M2.out.r rfl; have q6 := cellOf (i := 6) M2.out.r rfl; have z0 := frozenOf (i := 0) M2.out.r; have z1 := frozenOf (i := 1) M2.out.r; have z2 := frozenOf (i := 2) M2.out.r; have z3 := frozenOf (i := 3) M2.out.r; have z4 := frozenOf (i := 4) M2.out.r; have z5 := frozenOf (i := 5) M2.out.r; have z6 := frozenOf (i := 6) M2.out.r)
    | (go_at_call 16; (with_reducible refine (C3.out _ M2.out.n).mono ?_); rintro e w3 ⟨⟨r3, hr3, hr3', rfl⟩, n3, s3⟩; have M3 := Lib.hid (M2.out.stays n3 s3 hne.out); have p0 := cellOf (i := 0) M3.out.r rfl; have p1 := cellOf (i := 1) M3.out.r rfl; have p2 := cellOf (i := 2) M3.out.r rfl; have p3 := cellOf (i := 3) M3.out.r rfl; have p4 := cellOf (i := 4) M3.out.r rfl; have p5 := cellOf (i := 5) M3.out.r rfl; have p6 := cellOf (i := 6) M3.out.r rfl; have y0 := frozenOf (i := 0) M3.out.r; have y1 := frozenOf (i := 1) M3.out.r; have y2 := frozenOf (i := 2) M3.out.r; have y3 := frozenOf (i := 3) M3.out.r; have y4 := frozenOf (i := 4) M3.out.r; have y5 := frozenOf (i := 5) M3.out.r; have y6 := frozenOf (i := 6) M3.out.r))
  · refine bodyPost_ret (by simp [results, Tryz.results5, go_sem, p0, p1, p2, p3, p4, p5, p6]; rfl) rfl ?_
    exact ⟨⟨r3, rfl, hr3, by omega⟩, HN.out.set7 M3.out.n _ _ _ _ _ _ _, M3.out.s.set7 _ _ _ _ _ _ _⟩
  · refine bodyPost_ret (by simp [results, Tryz.results5, go_sem, q0, q1, q2, q3, q4, q5, q6]; rfl) rfl ?_
    exact ⟨⟨738000 + r1, rfl, by omega, by omega⟩, HN.out.set7 M2.out.n _ _ _ _ _ _ _, M2.out.s.set7 _ _ _ _ _ _ _⟩

set_option maxRecDepth 100000 in
set_option maxHeartbeats 2000000 in
theorem value_num (w : World) (b : Nat) (a : Option Addr) (len : Nat) (hm : len ≤ maxLen) (h : Num w b a len) : Calls Tryz.prog 5 #[.pointer (some ⟨b, 0, none⟩), .int .i64 2] w fun e w' => RetNum e ∧ Num w' b a len ∧ Stays b w w' := by
  have C1 : Hid (∀ w, Num w b a len → Calls Tryz.prog 15 #[.pointer (some ⟨b, 0, none⟩)] w fun e w' => RetDec e ∧ Num w' b a len ∧ Stays b w w') := fun w h3 => dec_any w b a len hm h3
  have HN := Lib.hid h
  have M0 := Lib.hid (NumS.new h zeroV 43)
  have hne : Hid (w.heap.size ≠ b) := (by have := h.lt; show w.heap.size ≠ b; omega)
  clear h hm
  go_enter Tryz.func5, Tryz.ntmps5
  go_wp2_with (first
    | (go_at_call 15; (with_reducible refine (C1.out _ M0.out.n).mono ?_); rintro e w3 ⟨⟨N1, S1, rfl, hR, hS⟩, n3, s3⟩; have M3 := Lib.hid (M0.out.stays n3 s3 hne.out); have p0 := cellOf (i := 0) M3.out.r rfl; have p1 := cellOf (i := 1) M3.out.r rfl; have p2 := cellOf (i := 2) M3.out.r rfl; have p3 := cellOf (i := 3) M3.out.r rfl; have p4 := cellOf (i := 4) M3.out.r rfl; have p5 := cellOf (i := 5) M3.out.r rfl; have p6 := cellOf (i := 6) M3.out.r rfl; have y0 := frozenOf (i := 0) M3.out.r; have y1 := frozenOf (i := 1) M3.out.r; have y2 := frozenOf (i := 2) M3.out.r; have y3 := frozenOf (i := 3) M3.out.r; have y4 := frozenOf (i := 4) M3.out.r; have y5 := frozenOf (i := 5) M3.out.r; have y6 := frozenOf (i := 6) M3.out.r))
  refine bodyPost_ret (by simp [results, Tryz.results5, go_sem, p0, p1, p2, p3, p4, p5, p6]; rfl) rfl ?_
  exact ⟨⟨N1, S1, rfl, hR, hS⟩, HN.out.set7 M3.out.n _ _ _ _ _ _ _, M3.out.s.set7 _ _ _ _ _ _ _⟩
end Go.EvProp
