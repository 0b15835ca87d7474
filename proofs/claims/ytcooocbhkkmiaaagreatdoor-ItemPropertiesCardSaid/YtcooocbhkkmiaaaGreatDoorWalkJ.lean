/-
  Right, parts and comparison of decimals in the program.
-/
import Derived.Test.YtcooocbhkkmiaaaGreatDoorWalkI
set_option linter.all false
namespace Go.EvProp
open Go Go.Proofs Go.RowKit Go.Lib
set_option maxRecDepth 100000

set_option maxHeartbeats 1000000 in
theorem within_yes (N : Int) (w : World) (h0 : -1000000000000000 ≤ N) (h1 : N ≤ 1000000000000000) : Calls Tryz.prog 133 #[.int .i64 N] w fun e w' => RetTrue e ∧ w = w' := by
  go_enter Tryz.func133, Tryz.ntmps133
  go_wp2
  go_ret
  exact ⟨rfl, rfl⟩

set_option maxHeartbeats 1000000 in
theorem dright_yes (N : Int) (S : Nat) (w : World) (h : RightD N S) : Calls Tryz.prog 68 #[.agg #[.int .i64 N, .int .i64 S]] w fun e w' => RetTrue e ∧ Below w.heap.size w w' := by
  obtain ⟨h1, h2, h3, h4, h5⟩ := h
  have C1 := Lib.hid fun w => within_yes N w h3 h4
  have i1 : ¬ (6 : Int) < (S : Int) := by omega
  by_cases hS : S = 0
  · subst hS
    clear h5
    go_enter Tryz.func68, Tryz.ntmps68
    go_wp2_with (go_at_call 133; (with_reducible refine (C1.out _).mono ?_); rintro e w1 ⟨rfl, rfl⟩)
    go_ret
    exact ⟨rfl, (Below.refl _ _).alloc (Nat.le_refl _) _⟩
  · have hm : N.tmod 10 ≠ 0 := by
      rcases h5 with h5 | h5
      · exact absurd h5 (by omega)
      · exact h5
    have q1 : ((S : Int) == 0) = false := by rw [beq_eq_false_iff_ne]; omega
    have q2 : (N.tmod 10 != 0) = true := by simpa using hm
    clear h5
    go_enter Tryz.func68, Tryz.ntmps68
    go_wp2_with (go_at_call 133; (with_reducible refine (C1.out _).mono ?_); rintro e w1 ⟨rfl, rfl⟩)
    go_ret
    exact ⟨rfl, (Below.refl _ _).alloc (Nat.le_refl _) _⟩

set_option maxHeartbeats 1000000 in
theorem bare_yes (k : Int) (w : World) : Calls Tryz.prog 66 #[.agg #[.int .i64 k, .string ⟨#[]⟩, .int .i64 0, .int .i64 0, .int .i64 0, .slice none 0 0, .slice none 0 0]] w fun e w' => RetTrue e ∧ Below w.heap.size w w' := by
  go_enter Tryz.func66, Tryz.ntmps66
  go_wp2
  go_ret
  exact ⟨rfl, (Below.refl _ _).alloc (Nat.le_refl _) _⟩

abbrev dateC (N : Int) : Array Value := #[.int .i64 3, .string ⟨#[]⟩, .int .i64 0, .int .i64 0, .int .i64 N, .slice none 0 0, .slice none 0 0]

set_option maxHeartbeats 1000000 in
theorem vright_date (N : Int) (w : World) (h0 : 0 ≤ N) (h1 : N ≤ 3652058) : Calls Tryz.prog 30 #[.agg (dateC N)] w fun e w' => RetTrue e ∧ Below w.heap.size w w' := by
  have C1 := Lib.hid fun w => bare_yes 3 w
  have B0 := Lib.hid (((Below.refl w.heap.size w).alloc (Nat.le_refl _) (.cells (dateC N) 43 (0, 0))).alloc (by simp) (.cells (dateC 0) 43 (0, 0)))
  go_enter Tryz.func30, Tryz.ntmps30
  go_wp2_with (go_at_call 66; (with_reducible refine (C1.out _).mono ?_); rintro e w1 ⟨rfl, hb1⟩; have B1 := Lib.hid (B0.out.trans (hb1.mono B0.out.size)))
  go_ret
  exact ⟨rfl, B1.out⟩

set_option maxHeartbeats 1000000 in
theorem vright_num (N : Int) (S : Nat) (w : World) (h : RightD N S) : Calls Tryz.prog 30 #[.agg (numC N S)] w fun e w' => RetTrue e ∧ Below w.heap.size w w' := by
  have C1 := Lib.hid fun w => bare_yes 2 w
  have C2 := Lib.hid fun w => dright_yes N S w h
  have T := two w (.cells (numC N S) 43 (0, 0)) (.cells (numC 0 0) 43 (0, 0))
  clear h
  go_enter Tryz.func30, Tryz.ntmps30
  go_wp2_with (first
    | (go_at_call 68; (with_reducible refine (C2.out _).mono ?_); rintro e w1 ⟨rfl, hb1⟩; have T1 := T.below hb1; have p0 := cellOf (i := 0) T1.p rfl; have p1 := cellOf (i := 1) T1.p rfl; have p2 := cellOf (i := 2) T1.p rfl; have p3 := cellOf (i := 3) T1.p rfl; have p4 := cellOf (i := 4) T1.p rfl; have p5 := cellOf (i := 5) T1.p rfl; have p6 := cellOf (i := 6) T1.p rfl; have q0 := cellOf (i := 0) T1.q rfl; have q1 := cellOf (i := 1) T1.q rfl; have q2 := cellOf (i := 2) T1.q rfl; have q3 := cellOf (i := 3) T1.q rfl; have q4 := cellOf (i := 4) T1.q rfl; have q5 := cellOf (i := 5) T1.q rfl; have q6 := cellOf (i := 6) T1.q rfl; have B1 := Lib.hid T1.h; clear T1 T hb1)
    | (go_at_call 66; (with_reducible refine (C1.out _).mono ?_); rintro e w2 ⟨rfl, hb2⟩; have B2 := Lib.hid (B1.out.trans (hb2.mono B1.out.size))))
  go_ret
  exact ⟨rfl, B2.out⟩

set_option maxHeartbeats 1000000 in
theorem dvalue_yes (N : Int) (S : Nat) (w : World) (h : RightD N S) : Calls Tryz.prog 164 #[.agg #[.int .i64 N, .int .i64 S]] w fun e w' => e = .returned (.agg #[.int .i64 N, .int .i64 S]) ∧ Below w.heap.size w w' := by
  have C2 := Lib.hid fun w => dright_yes N S w h
  have T := two w (.cells #[.int .i64 N, .int .i64 S] 39 (0, 0)) (.cells #[.int .i64 0, .int .i64 0] 39 (0, 0))
  clear h
  go_enter Tryz.func164, Tryz.ntmps164
  go_wp2_with (first
    | (go_at_call 68; (with_reducible refine (C2.out _).mono ?_); rintro e w1 ⟨rfl, hb1⟩; have T1 := T.below hb1; have p0 := cellOf (i := 0) T1.p rfl; have p1 := cellOf (i := 1) T1.p rfl; have q0 := cellOf (i := 0) T1.q rfl; have q1 := cellOf (i := 1) T1.q rfl; have z0 := frozenOf (i := 0) T1.q; have z1 := frozenOf (i := 1) T1.q; have B1 := Lib.hid T1.h; clear T1 T hb1))
  refine bodyPost_ret (by simp [results, Tryz.results164, go_sem, q0, q1]; rfl) rfl ?_
  exact ⟨rfl, (B1.out.setCell (p := ⟨w.heap.size + 1, 0, none⟩) (by show w.heap.size ≤ w.heap.size + 1; omega) _).setCell (p := ⟨w.heap.size + 1, 1, none⟩) (by show w.heap.size ≤ w.heap.size + 1; omega) _⟩

/-- How two numbers compare. -/
def cmpI (x y : Int) : Int := if x < y then -1 else if y < x then 1 else 0

set_option maxHeartbeats 1000000 in
theorem compare_any (x y : Int) (w : World) : Calls Tryz.prog 148 #[.int .i64 x, .int .i64 y] w fun e w' => RetI (cmpI x y) e ∧ w = w' := by
  unfold cmpI RetI
  by_cases h1 : x < y
  · rw [if_pos h1]
    go_enter Tryz.func148, Tryz.ntmps148
    go_wp2
    go_ret
    exact ⟨rfl, rfl⟩
  · rw [if_neg h1]
    by_cases h2 : y < x
    · rw [if_pos h2]
      go_enter Tryz.func148, Tryz.ntmps148
      go_wp2
      go_ret
      exact ⟨rfl, rfl⟩
    · rw [if_neg h2]
      go_enter Tryz.func148, Tryz.ntmps148
      go_wp2
      go_ret
      exact ⟨rfl, rfl⟩

def orI (x y : Int) : Int := if x = 0 then y else x

set_option maxHeartbeats 1000000 in
theorem or_two (x y : Int) (b : Nat) (w : World) (h0 : w.cell? ⟨b, 0, none⟩ = some (.int .i64 x)) (h1 : w.cell? ⟨b, 1, none⟩ = some (.int .i64 y)) : Calls Tryz.prog 147 #[.slice (some ⟨b, 0, none⟩) 2 2] w fun e w' => RetI (orI x y) e ∧ w = w' := by
  unfold orI RetI
  by_cases hx : x = 0
  · rw [if_pos hx]
    have hx' : (x != 0) = false := by simp [hx]
    by_cases hy : y = 0
    · have hy' : (y != 0) = false := by simp [hy]
      subst hx hy
      go_enter Tryz.func147, Tryz.ntmps147
      go_wp2
      refine wp_loop_rounds 3 ?_
      rw [rounds_succ]
      go_wp2
      rw [rounds_succ]
      go_wp2
      rw [rounds_succ]
      go_wp2
      go_ret
      exact ⟨rfl, rfl⟩
    · have hy' : (y != 0) = true := by simp [hy]
      subst hx
      go_enter Tryz.func147, Tryz.ntmps147
      go_wp2
      refine wp_loop_rounds 3 ?_
      rw [rounds_succ]
      go_wp2
      rw [rounds_succ]
      go_wp2
      go_ret
      exact ⟨rfl, rfl⟩
  · rw [if_neg hx]
    have hx' : (x != 0) = true := by simp [hx]
    go_enter Tryz.func147, Tryz.ntmps147
    go_wp2
    refine wp_loop_rounds 3 ?_
    rw [rounds_succ]
    go_wp2
    go_ret
    exact ⟨rfl, rfl⟩

/-- The table of powers of ten. -/
def TensAt (w : World) : Prop := ∃ fz, w.heap[0]? = some (.cells #[.int .i64 1, .int .i64 10, .int .i64 100, .int .i64 1000, .int .i64 10000, .int .i64 100000, .int .i64 1000000] 244 fz)
theorem TensAt.below {w w' : World} (h : TensAt w) (hb : Below w.heap.size w w') : TensAt w' := by
  obtain ⟨fz, h⟩ := h
  exact ⟨fz, (hb.block 0 (Array.getElem?_eq_some_iff.1 h).1).trans h⟩
theorem TensAt.cell {w : World} (h : TensAt w) (S : Nat) (hS : S ≤ 3) : w.cell? ⟨0, S, none⟩ = some (.int .i64 ((10 ^ S : Nat) : Int)) := by
  obtain ⟨fz, h⟩ := h
  have : S = 0 ∨ S = 1 ∨ S = 2 ∨ S = 3 := by omega
  rcases this with rfl | rfl | rfl | rfl <;> simp [World.cell?, h]
theorem TensAt.lt {w : World} (h : TensAt w) : 0 < w.heap.size := by
  obtain ⟨fz, h⟩ := h
  exact (Array.getElem?_eq_some_iff.1 h).1

theorem tdiv_bd (N : Int) (T : Nat) (h0 : -1000000000000000 ≤ N) (h1 : N ≤ 1000000000000000) : -1000000000000000 ≤ N.tdiv (T : Int) ∧ N.tdiv (T : Int) ≤ 1000000000000000 := by
  have h : (N.tdiv (T : Int)).natAbs = N.natAbs / (T : Int).natAbs := Int.natAbs_tdiv N (T : Int)
  have h2 : N.natAbs / (T : Int).natAbs ≤ N.natAbs := Nat.div_le_self _ _
  omega
theorem tmod_bd (N : Int) (T : Nat) (hT : 0 < T) : -(T : Int) < N.tmod (T : Int) ∧ N.tmod (T : Int) < (T : Int) := by
  have h := Int.natAbs_tmod N (T : Int)
  have h2 : N.natAbs % (T : Int).natAbs < (T : Int).natAbs := Nat.mod_lt _ (by omega)
  omega

def RetSp (x f : Int) (e : Ending) : Prop := e = .returned (.tuple #[.int .i64 x, .int .i64 f])

set_option maxHeartbeats 1000000 in
theorem split_0 (N : Int) (w : World) (h : RightD N (((0 : Nat)) : Int)) (hT : TensAt w) (hw0 : 0 < w.heap.size) : Calls Tryz.prog 146 #[.agg #[.int .i64 N, .int .i64 0]] w fun e w' => RetSp (N.tdiv 1) (N.tmod 1 * 1000000) e ∧ Below w.heap.size w w' := by
  have C1 : Hid (∀ w, Calls Tryz.prog 164 #[.agg #[.int .i64 N, .int .i64 0]] w fun e w' => e = .returned (.agg #[.int .i64 N, .int .i64 0]) ∧ Below w.heap.size w w') := fun w => dvalue_yes N 0 w h
  have B0 := Lib.hid ((Below.refl w.heap.size w).alloc (Nat.le_refl _) (.cells #[.int .i64 N, .int .i64 0] 39 (0, 0)))
  have hx0 := Lib.hid (heapNew w (.cells #[.int .i64 N, .int .i64 0] 39 (0, 0)))
  have hN0 := h.2.2.1
  have hN1 := h.2.2.2.1
  have HT := Lib.hid hT
  clear h hT
  obtain ⟨q, hq⟩ : ∃ q, q = N.tdiv 1 := ⟨_, rfl⟩
  obtain ⟨r, hr⟩ : ∃ r, r = N.tmod 1 := ⟨_, rfl⟩
  have hq1 : -1000000000000000 ≤ q ∧ q ≤ 1000000000000000 := by rw [hq]; exact tdiv_bd N 1 hN0 hN1
  have hr1 : -1 < r ∧ r < 1 := by rw [hr]; exact tmod_bd N 1 (by omega)
  have hq2 : wrap64 (N.tdiv 1) = q := by rw [← hq]; exact IntWalk.wrap64_in _ ⟨by omega, by omega⟩
  have hr2 : N.tmod 1 = r := hr.symm
  rw [← hq, ← hr]
  have HQ := Lib.hid hq
  have HR := Lib.hid hr
  clear hq hr hq2 hr2
  go_enter Tryz.func146, Tryz.ntmps146
  go_wp2_with (go_at_call 164; (with_reducible refine (C1.out _).mono ?_); rintro e w1 ⟨rfl, hb1⟩; have B1 := Lib.hid (B0.out.trans (hb1.mono (by simp))); have hx1 := (hb1.block _ (by simp)).trans hx0.out; have p0 := cellOf (i := 0) hx1 rfl; have p1 := cellOf (i := 1) hx1 rfl; have z0 := frozenOf (i := 0) hx1; have z1 := frozenOf (i := 1) hx1; have HT1 := HT.out.below B1.out; have t0 := HT1.cell 0 (by omega); have l1 := (Array.getElem?_eq_some_iff.1 hx1).1)
  have g0 : ((w1.setCell ⟨w.heap.size, 0, none⟩ (.int .i64 N)).setCell ⟨w.heap.size, 1, none⟩ (.int .i64 0)).cell? ⟨w.heap.size, 0, none⟩ = some (.int .i64 N) := by simp [go_sem, p0, p1]
  have B2 := Lib.hid ((B1.out.setCell (p := ⟨w.heap.size, 0, none⟩) (Nat.le_refl _) (.int .i64 N)).setCell (p := ⟨w.heap.size, 1, none⟩) (Nat.le_refl _) (.int .i64 0))
  generalize (w1.setCell ⟨w.heap.size, 0, none⟩ (.int .i64 N)).setCell ⟨w.heap.size, 1, none⟩ (.int .i64 0) = w2 at *
  go_region_held3 (fun W => W.cell? ⟨w.heap.size, 0, none⟩ = some (.int .i64 N)) (first | exact g0 | go_keep) (fail)
  go_wp2
  have e1 : IntKind.i64.wrap (N.tdiv 1) = q := by rw [← HQ.out]; exact IntWalk.i64_in _ ⟨by omega, by omega⟩
  have e3 : IntKind.i64.wrap 1000000 = 1000000 := by decide
  have e2 : IntKind.i64.wrap (N.tmod 1 * IntKind.i64.wrap 1000000) = r * 1000000 := by rw [← HR.out, e3]; exact IntWalk.i64_in _ ⟨by omega, by omega⟩
  go_ret2
  refine ⟨?_, B2.out.drew⟩
  unfold RetSp
  rw [← e1, ← e2]
  first | rfl | simp

set_option maxHeartbeats 1000000 in
theorem split_1 (N : Int) (w : World) (h : RightD N (((1 : Nat)) : Int)) (hT : TensAt w) (hw0 : 0 < w.heap.size) : Calls Tryz.prog 146 #[.agg #[.int .i64 N, .int .i64 1]] w fun e w' => RetSp (N.tdiv 10) (N.tmod 10 * 100000) e ∧ Below w.heap.size w w' := by
  have C1 : Hid (∀ w, Calls Tryz.prog 164 #[.agg #[.int .i64 N, .int .i64 1]] w fun e w' => e = .returned (.agg #[.int .i64 N, .int .i64 1]) ∧ Below w.heap.size w w') := fun w => dvalue_yes N 1 w h
  have B0 := Lib.hid ((Below.refl w.heap.size w).alloc (Nat.le_refl _) (.cells #[.int .i64 N, .int .i64 1] 39 (0, 0)))
  have hx0 := Lib.hid (heapNew w (.cells #[.int .i64 N, .int .i64 1] 39 (0, 0)))
  have hN0 := h.2.2.1
  have hN1 := h.2.2.2.1
  have HT := Lib.hid hT
  clear h hT
  obtain ⟨q, hq⟩ : ∃ q, q = N.tdiv 10 := ⟨_, rfl⟩
  obtain ⟨r, hr⟩ : ∃ r, r = N.tmod 10 := ⟨_, rfl⟩
  have hq1 : -1000000000000000 ≤ q ∧ q ≤ 1000000000000000 := by rw [hq]; exact tdiv_bd N 10 hN0 hN1
  have hr1 : -10 < r ∧ r < 10 := by rw [hr]; exact tmod_bd N 10 (by omega)
  have hq2 : wrap64 (N.tdiv 10) = q := by rw [← hq]; exact IntWalk.wrap64_in _ ⟨by omega, by omega⟩
  have hr2 : N.tmod 10 = r := hr.symm
  rw [← hq, ← hr]
  have HQ := Lib.hid hq
  have HR := Lib.hid hr
  clear hq hr hq2 hr2
  go_enter Tryz.func146, Tryz.ntmps146
  go_wp2_with (go_at_call 164; (with_reducible refine (C1.out _).mono ?_); rintro e w1 ⟨rfl, hb1⟩; have B1 := Lib.hid (B0.out.trans (hb1.mono (by simp))); have hx1 := (hb1.block _ (by simp)).trans hx0.out; have p0 := cellOf (i := 0) hx1 rfl; have p1 := cellOf (i := 1) hx1 rfl; have z0 := frozenOf (i := 0) hx1; have z1 := frozenOf (i := 1) hx1; have HT1 := HT.out.below B1.out; have t0 := HT1.cell 1 (by omega); have l1 := (Array.getElem?_eq_some_iff.1 hx1).1)
  have g0 : ((w1.setCell ⟨w.heap.size, 0, none⟩ (.int .i64 N)).setCell ⟨w.heap.size, 1, none⟩ (.int .i64 1)).cell? ⟨w.heap.size, 0, none⟩ = some (.int .i64 N) := by simp [go_sem, p0, p1]
  have B2 := Lib.hid ((B1.out.setCell (p := ⟨w.heap.size, 0, none⟩) (Nat.le_refl _) (.int .i64 N)).setCell (p := ⟨w.heap.size, 1, none⟩) (Nat.le_refl _) (.int .i64 1))
  generalize (w1.setCell ⟨w.heap.size, 0, none⟩ (.int .i64 N)).setCell ⟨w.heap.size, 1, none⟩ (.int .i64 1) = w2 at *
  go_region_held3 (fun W => W.cell? ⟨w.heap.size, 0, none⟩ = some (.int .i64 N)) (first | exact g0 | go_keep) (fail)
  go_wp2
  have e1 : IntKind.i64.wrap (N.tdiv 10) = q := by rw [← HQ.out]; exact IntWalk.i64_in _ ⟨by omega, by omega⟩
  have e3 : IntKind.i64.wrap 100000 = 100000 := by decide
  have e2 : IntKind.i64.wrap (N.tmod 10 * IntKind.i64.wrap 100000) = r * 100000 := by rw [← HR.out, e3]; exact IntWalk.i64_in _ ⟨by omega, by omega⟩
  go_ret2
  refine ⟨?_, B2.out.drew⟩
  unfold RetSp
  rw [← e1, ← e2]
  first | rfl | simp

set_option maxHeartbeats 1000000 in
theorem split_2 (N : Int) (w : World) (h : RightD N (((2 : Nat)) : Int)) (hT : TensAt w) (hw0 : 0 < w.heap.size) : Calls Tryz.prog 146 #[.agg #[.int .i64 N, .int .i64 2]] w fun e w' => RetSp (N.tdiv 100) (N.tmod 100 * 10000) e ∧ Below w.heap.size w w' := by
  have C1 : Hid (∀ w, Calls Tryz.prog 164 #[.agg #[.int .i64 N, .int .i64 2]] w fun e w' => e = .returned (.agg #[.int .i64 N, .int .i64 2]) ∧ Below w.heap.size w w') := fun w => dvalue_yes N 2 w h
  have B0 := Lib.hid ((Below.refl w.heap.size w).alloc (Nat.le_refl _) (.cells #[.int .i64 N, .int .i64 2] 39 (0, 0)))
  have hx0 := Lib.hid (heapNew w (.cells #[.int .i64 N, .int .i64 2] 39 (0, 0)))
  have hN0 := h.2.2.1
  have hN1 := h.2.2.2.1
  have HT := Lib.hid hT
  clear h hT
  obtain ⟨q, hq⟩ : ∃ q, q = N.tdiv 100 := ⟨_, rfl⟩
  obtain ⟨r, hr⟩ : ∃ r, r = N.tmod 100 := ⟨_, rfl⟩
  have hq1 : -1000000000000000 ≤ q ∧ q ≤ 1000000000000000 := by rw [hq]; exact tdiv_bd N 100 hN0 hN1
  have hr1 : -100 < r ∧ r < 100 := by rw [hr]; exact tmod_bd N 100 (by omega)
  have hq2 : wrap64 (N.tdiv 100) = q := by rw [← hq]; exact IntWalk.wrap64_in _ ⟨by omega, by omega⟩
  have hr2 : N.tmod 100 = r := hr.symm
  rw [← hq, ← hr]
  have HQ := Lib.hid hq
  have HR := Lib.hid hr
  clear hq hr hq2 hr2
  go_enter Tryz.func146, Tryz.ntmps146
  go_wp2_with (go_at_call 164; (with_reducible refine (C1.out _).mono ?_); rintro e w1 ⟨rfl, hb1⟩; have B1 := Lib.hid (B0.out.trans (hb1.mono (by simp))); have hx1 := (hb1.block _ (by simp)).trans hx0.out; have p0 := cellOf (i := 0) hx1 rfl; have p1 := cellOf (i := 1) hx1 rfl; have z0 := frozenOf (i := 0) hx1; have z1 := frozenOf (i := 1) hx1; have HT1 := HT.out.below B1.out; have t0 := HT1.cell 2 (by omega); have l1 := (Array.getElem?_eq_some_iff.1 hx1).1)
  have g0 : ((w1.setCell ⟨w.heap.size, 0, none⟩ (.int .i64 N)).setCell ⟨w.heap.size, 1, none⟩ (.int .i64 2)).cell? ⟨w.heap.size, 0, none⟩ = some (.int .i64 N) := by simp [go_sem, p0, p1]
  have B2 := Lib.hid ((B1.out.setCell (p := ⟨w.heap.size, 0, none⟩) (Nat.le_refl _) (.int .i64 N)).setCell (p := ⟨w.heap.size, 1, none⟩) (Nat.le_refl _) (.int .i64 2))
  generalize (w1.setCell ⟨w.heap.size, 0, none⟩ (.int .i64 N)).setCell ⟨w.heap.size, 1, none⟩ (.int .i64 2) = w2 at *
  go_region_held3 (fun W => W.cell? ⟨w.heap.size, 0, none⟩ = some (.int .i64 N)) (first | exact g0 | go_keep) (fail)
  go_wp2
  have e1 : IntKind.i64.wrap (N.tdiv 100) = q := by rw [← HQ.out]; exact IntWalk.i64_in _ ⟨by omega, by omega⟩
  have e3 : IntKind.i64.wrap 10000 = 10000 := by decide
  have e2 : IntKind.i64.wrap (N.tmod 100 * IntKind.i64.wrap 10000) = r * 10000 := by rw [← HR.out, e3]; exact IntWalk.i64_in _ ⟨by omega, by omega⟩
  go_ret2
  refine ⟨?_, B2.out.drew⟩
  unfold RetSp
  rw [← e1, ← e2]
  first | rfl | simp

set_option maxHeartbeats 1000000 in
theorem split_3 (N : Int) (w : World) (h : RightD N (((3 : Nat)) : Int)) (hT : TensAt w) (hw0 : 0 < w.heap.size) : Calls Tryz.prog 146 #[.agg #[.int .i64 N, .int .i64 3]] w fun e w' => RetSp (N.tdiv 1000) (N.tmod 1000 * 1000) e ∧ Below w.heap.size w w' := by
  have C1 : Hid (∀ w, Calls Tryz.prog 164 #[.agg #[.int .i64 N, .int .i64 3]] w fun e w' => e = .returned (.agg #[.int .i64 N, .int .i64 3]) ∧ Below w.heap.size w w') := fun w => dvalue_yes N 3 w h
  have B0 := Lib.hid ((Below.refl w.heap.size w).alloc (Nat.le_refl _) (.cells #[.int .i64 N, .int .i64 3] 39 (0, 0)))
  have hx0 := Lib.hid (heapNew w (.cells #[.int .i64 N, .int .i64 3] 39 (0, 0)))
  have hN0 := h.2.2.1
  have hN1 := h.2.2.2.1
  have HT := Lib.hid hT
  clear h hT
  obtain ⟨q, hq⟩ : ∃ q, q = N.tdiv 1000 := ⟨_, rfl⟩
  obtain ⟨r, hr⟩ : ∃ r, r = N.tmod 1000 := ⟨_, rfl⟩
  have hq1 : -1000000000000000 ≤ q ∧ q ≤ 1000000000000000 := by rw [hq]; exact tdiv_bd N 1000 hN0 hN1
  have hr1 : -1000 < r ∧ r < 1000 := by rw [hr]; exact tmod_bd N 1000 (by omega)
  have hq2 : wrap64 (N.tdiv 1000) = q := by rw [← hq]; exact IntWalk.wrap64_in _ ⟨by omega, by omega⟩
  have hr2 : N.tmod 1000 = r := hr.symm
  rw [← hq, ← hr]
  have HQ := Lib.hid hq
  have HR := Lib.hid hr
  clear hq hr hq2 hr2
  go_enter Tryz.func146, Tryz.ntmps146
  go_wp2_with (go_at_call 164; (with_reducible refine (C1.out _).mono ?_); rintro e w1 ⟨rfl, hb1⟩; have B1 := Lib.hid (B0.out.trans (hb1.mono (by simp))); have hx1 := (hb1.block _ (by simp)).trans hx0.out; have p0 := cellOf (i := 0) hx1 rfl; have p1 := cellOf (i := 1) hx1 rfl; have z0 := frozenOf (i := 0) hx1; have z1 := frozenOf (i := 1) hx1; have HT1 := HT.out.below B1.out; have t0 := HT1.cell 3 (by omega); have l1 := (Array.getElem?_eq_some_iff.1 hx1).1)
  have g0 : ((w1.setCell ⟨w.heap.size, 0, none⟩ (.int .i64 N)).setCell ⟨w.heap.size, 1, none⟩ (.int .i64 3)).cell? ⟨w.heap.size, 0, none⟩ = some (.int .i64 N) := by simp [go_sem, p0, p1]
  have B2 := Lib.hid ((B1.out.setCell (p := ⟨w.heap.size, 0, none⟩) (Nat.le_refl _) (.int .i64 N)).setCell (p := ⟨w.heap.size, 1, none⟩) (Nat.le_refl _) (.int .i64 3))
  generalize (w1.setCell ⟨w.heap.size, 0, none⟩ (.int .i64 N)).setCell ⟨w.heap.size, 1, none⟩ (.int .i64 3) = w2 at *
  go_region_held3 (fun W => W.cell? ⟨w.heap.size, 0, none⟩ = some (.int .i64 N)) (first | exact g0 | go_keep) (fail)
  go_wp2
  have e1 : IntKind.i64.wrap (N.tdiv 1000) = q := by rw [← HQ.out]; exact IntWalk.i64_in _ ⟨by omega, by omega⟩
  have e3 : IntKind.i64.wrap 1000 = 1000 := by decide
  have e2 : IntKind.i64.wrap (N.tmod 1000 * IntKind.i64.wrap 1000) = r * 1000 := by rw [← HR.out, e3]; exact IntWalk.i64_in _ ⟨by omega, by omega⟩
  go_ret2
  refine ⟨?_, B2.out.drew⟩
  unfold RetSp
  rw [← e1, ← e2]
  first | rfl | simp
end Go.EvProp

namespace Go.EvProp
open Go Go.Proofs Go.RowKit Go.Lib
set_option maxRecDepth 100000

def wholeOf (N : Int) (S : Nat) : Int := N.tdiv ((10 ^ S : Nat) : Int)
def partOf (N : Int) (S : Nat) : Int := N.tmod ((10 ^ S : Nat) : Int) * ((10 ^ (6 - S) : Nat) : Int)

theorem split_any (N : Int) (S : Nat) (w : World) (h : RightD N S) (hS : S ≤ 3) (hT : TensAt w) : Calls Tryz.prog 146 #[.agg #[.int .i64 N, .int .i64 S]] w fun e w' => RetSp (wholeOf N S) (partOf N S) e ∧ Below w.heap.size w w' := by
  have : S = 0 ∨ S = 1 ∨ S = 2 ∨ S = 3 := by omega
  rcases this with rfl | rfl | rfl | rfl
  · exact split_0 N w h hT hT.lt
  · exact split_1 N w h hT hT.lt
  · exact split_2 N w h hT hT.lt
  · exact split_3 N w h hT hT.lt

set_option maxHeartbeats 2000000 in
theorem dcmp_any (N1 N2 : Int) (S1 S2 : Nat) (w : World) (h1 : RightD N1 S1) (h2 : RightD N2 S2) (hS1 : S1 ≤ 3) (hS2 : S2 ≤ 3) (hT : TensAt w) : Calls Tryz.prog 81 #[.agg #[.int .i64 N1, .int .i64 S1], .agg #[.int .i64 N2, .int .i64 S2]] w fun e w' => RetI (orI (cmpI (wholeOf N1 S1) (wholeOf N2 S2)) (cmpI (partOf N1 S1) (partOf N2 S2))) e ∧ Below w.heap.size w w' := by
  have C1 := Lib.hid fun w hT => split_any N1 S1 w h1 hS1 hT
  have C2 := Lib.hid fun w hT => split_any N2 S2 w h2 hS2 hT
  have T := Lib.hid (two w (.cells #[.int .i64 N1, .int .i64 S1] 39 (0, 0)) (.cells #[.int .i64 N2, .int .i64 S2] 39 (0, 0)))
  have HT := Lib.hid hT
  clear h1 h2 hS1 hS2 hT
  generalize wholeOf N1 S1 = x1 at *
  generalize wholeOf N2 S2 = x2 at *
  generalize partOf N1 S1 = f1 at *
  generalize partOf N2 S2 = f2 at *
  have C3 := Lib.hid fun w => compare_any x1 x2 w
  have C4 := Lib.hid fun w => compare_any f1 f2 w
  generalize cmpI x1 x2 = c1 at *
  generalize cmpI f1 f2 = c2 at *
  generalize hd : orI c1 c2 = d at *
  have C5 : Hid (∀ (b : Nat) w, w.cell? ⟨b, 0, none⟩ = some (.int .i64 c1) → w.cell? ⟨b, 1, none⟩ = some (.int .i64 c2) → Calls Tryz.prog 147 #[.slice (some ⟨b, 0, none⟩) 2 2] w fun e w' => RetI d e ∧ w = w') := fun b w h0 h1 => hd ▸ or_two c1 c2 b w h0 h1
  clear hd
  go_enter Tryz.func81, Tryz.ntmps81
  go_wp2_with (first
    | (go_at_call 146; (with_reducible refine (C1.out _ (HT.out.below T.out.h)).mono ?_); rintro e w1 ⟨rfl, hb1⟩; have T1 := Lib.hid (T.out.below hb1); have q0 := cellOf (i := 0) T1.out.q rfl; have q1 := cellOf (i := 1) T1.out.q rfl)
    | (go_at_call 146; (with_reducible refine (C2.out _ (HT.out.below T1.out.h)).mono ?_); rintro e w2 ⟨rfl, hb2⟩; have T2 := Lib.hid (T1.out.below hb2))
    | (go_at_call 148; (with_reducible refine (C3.out _).mono ?_); rintro e w3 ⟨rfl, rfl⟩)
    | (go_at_call 148; (with_reducible refine (C4.out _).mono ?_); rintro e w4 ⟨rfl, rfl⟩)
    | (go_at_call 147; refine (C5.out _ _ (cellOf (i := 0) (heapNew _ _) rfl) (cellOf (i := 1) (heapNew _ _) rfl)).mono ?_; rintro e w5 ⟨rfl, rfl⟩))
  go_ret
  exact ⟨rfl, T2.out.h.alloc T2.out.h.size _⟩
end Go.EvProp
