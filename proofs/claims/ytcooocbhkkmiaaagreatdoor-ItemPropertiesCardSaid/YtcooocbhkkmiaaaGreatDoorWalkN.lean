/-
  What the program does not take for a value or a column.
-/
import Derived.Test.YtcooocbhkkmiaaaGreatDoorWalkM
import Derived.Test.YtcooocbhkkmiaaaGreatDoorEvPart2
set_option linter.all false
namespace Go.EvProp
open Go Go.Ev Go.Proofs Go.RowKit Go.Lib
set_option maxRecDepth 100000

/-- A byte that begins a number. -/
def begins (c : UInt8) : Prop := c = 45 ∨ isDig c
theorem begins.lt {c : UInt8} (h : begins c) : c.toNat = 45 ∨ (48 ≤ c.toNat ∧ c.toNat ≤ 57) := by
  rcases h with h | h
  · rw [h]; exact .inl rfl
  · exact .inr h

theorem emptyNo {s : ByteArray} (hz : 0 < s.size) : s.toList.isEmpty = false := by
  have : ¬ s.toList = [] := fun e => by
    have h1 : s.toList.length = s.size := by rw [Lib.toList_data]; exact Array.length_toList
    rw [e] at h1
    simp at h1
    omega
  cases hh : s.toList with
  | nil => exact absurd hh this
  | cons => rfl

set_option maxHeartbeats 1000000 in
theorem vskip_no (s : ByteArray) (b : Nat) (w : World) (hz : 0 < s.size) (hc : begins (s[0]'hz)) (hw : w.heap[b]? = some (.cells #[.string s] 175 (0, 0))) : Calls Tryz.prog 191 #[.pointer (some ⟨b, 0, none⟩), .int .u8 91] w fun e w' => e = .returned (.bool false) ∧ w = w' := by
  have c0 := cellOf (i := 0) hw rfl
  have hne : ((((s[0]'hz).toNat : Nat) : Int) != 91) = true := by
    rw [bne_iff_ne]
    have := hc.lt
    omega
  have hse := emptyNo hz
  clear hw hc
  go_enter Tryz.func191, Tryz.ntmps191
  go_wp2
  go_ret
  exact ⟨rfl, rfl⟩

theorem setO_new (W : World) (o o' : Obj) : setO (W.alloc o) W.heap.size o' = W.alloc o' := by
  show ({ W with heap := (W.heap.push o).setIfInBounds W.heap.size o' } : World) = { W with heap := W.heap.push o' }
  congr 1
  apply Array.ext'
  simp

theorem und281 : Tryz.prog.underlying 281 = some (.map 5 176) := Tryz.underlying281
theorem ins_law (W : World) (n : Nat) (hn : n = W.heap.size) (ms : Array MapEntry) (clk : Nat) (k : Int) (f : Value) (q : Instr.findNow (.int .u8) (.int .u8 k) ms.toList 0 = some none) : (Instr.mapUpdate 281 (.map (some n)) (.int .u8 k) f).run Tryz.prog (W.alloc (.map ms clk)) = .ok () (W.alloc (.map (ms.push { key := .int .u8 k, val := f, born := clk }) (clk + 1))) := by
  subst hn
  have hobj : (W.alloc (.map ms clk)).heap[W.heap.size]? = some (.map ms clk) := heapNew W _
  have hget := run_getObj (P := Tryz.prog) hobj (by intro c e f; simp)
  simp only [Instr.mapUpdate, Sem.run_bind, run_und und281, Result.andThen_ok, hget, run_checkKey Tryz.underlying5 (tag := 0) rfl _ 9999, run_findKey Tryz.underlying5 q, run_setObj (P := Tryz.prog) hobj (by intro c e f; simp), setO_new]

theorem look_law (W : World) (n : Nat) (hn : n = W.heap.size) (ms : Array MapEntry) (clk : Nat) (k : Int) (q : Instr.findNow (.int .u8) (.int .u8 k) ms.toList 0 = some none) : (Instr.lookup 281 (.map (some n)) (.int .u8 k) true).run Tryz.prog (W.alloc (.map ms clk)) = .ok (.tuple #[.nilFunc, .bool false]) (W.alloc (.map ms clk)) := by
  subst hn
  have hobj : (W.alloc (.map ms clk)).heap[W.heap.size]? = some (.map ms clk) := heapNew W _
  have hget := run_getObj (P := Tryz.prog) hobj (by intro c e f; simp)
  have hzero : (zeroValue 176).run Tryz.prog (W.alloc (.map ms clk)) = .ok .nilFunc (W.alloc (.map ms clk)) := Tryz.zeroValue176 _
  simp only [Instr.lookup, Sem.run_bind, run_und und281, Result.andThen_ok, hget, run_checkKey Tryz.underlying5 (tag := 0) rfl _ 9999, run_findKey Tryz.underlying5 q, hzero, Sem.run_pure, if_true]

set_option maxHeartbeats 1000000 in
theorem vcell_no (s : ByteArray) (b : Nat) (w : World) (hz : 0 < s.size) (hc : begins (s[0]'hz)) (hw : w.heap[b]? = some (.cells #[.string s] 175 (0, 0))) : Calls Tryz.prog 193 #[.pointer (some ⟨b, 0, none⟩)] w fun e w' => e = .returned (.tuple #[.agg zeroV, .bool false]) ∧ RowKit.Below w.heap.size w w' := by
  have c0 := cellOf (i := 0) hw rfl
  have hlt := (Array.getElem?_eq_some_iff.1 hw).1
  have hse := emptyNo hz
  have hmf : ∀ (fn : Fn) (first cap : Array Value) (w : World), (Instr.makeFunc fn first cap).run Tryz.prog w = .ok (.func fn first cap) w := fun _ _ _ _ => rfl
  have hmm : ∀ w, (Instr.makeMap 281 none).run Tryz.prog w = .ok (.map (some w.heap.size)) (w.alloc (.map #[] 0)) := fun _ => rfl
  have i1 := fun W n f hn => ins_law W n hn #[] 0 33 f rfl
  have i2 := fun W n f1 f hn => ins_law W n hn #[⟨.int .u8 33, f1, 0⟩] 1 39 f rfl
  have i3 := fun W n f1 f2 f hn => ins_law W n hn #[⟨.int .u8 33, f1, 0⟩, ⟨.int .u8 39, f2, 1⟩] 2 35 f rfl
  have i4 := fun W n f1 f2 f3 f hn => ins_law W n hn #[⟨.int .u8 33, f1, 0⟩, ⟨.int .u8 39, f2, 1⟩, ⟨.int .u8 35, f3, 2⟩] 3 64 f rfl
  have i5 := fun W n f1 f2 f3 f4 f hn => ins_law W n hn #[⟨.int .u8 33, f1, 0⟩, ⟨.int .u8 39, f2, 1⟩, ⟨.int .u8 35, f3, 2⟩, ⟨.int .u8 64, f4, 3⟩] 4 63 f rfl
  obtain ⟨k, hk⟩ : ∃ k : Int, k = (((s[0]'hz).toNat : Nat) : Int) := ⟨_, rfl⟩
  have hkk : k ≠ 33 ∧ k ≠ 39 ∧ k ≠ 35 ∧ k ≠ 64 ∧ k ≠ 63 := by have := hc.lt; omega
  have i6 := fun W n f1 f2 f3 f4 f5 hn => look_law W n hn #[⟨.int .u8 33, f1, 0⟩, ⟨.int .u8 39, f2, 1⟩, ⟨.int .u8 35, f3, 2⟩, ⟨.int .u8 64, f4, 3⟩, ⟨.int .u8 63, f5, 4⟩] 5 k (by
    obtain ⟨h1, h2, h3, h4, h5⟩ := hkk
    have e1 : (k == 33) = false := beq_eq_false_iff_ne.2 h1
    have e2 : (k == 39) = false := beq_eq_false_iff_ne.2 h2
    have e3 : (k == 35) = false := beq_eq_false_iff_ne.2 h3
    have e4 : (k == 64) = false := beq_eq_false_iff_ne.2 h4
    have e5 : (k == 63) = false := beq_eq_false_iff_ne.2 h5
    simp [Instr.findNow, Instr.sameNow, e1, e2, e3, e4, e5])
  rw [hk] at i6
  simp only [List.push_toArray, List.cons_append, List.nil_append, Nat.reduceAdd] at i1 i2 i3 i4 i5
  clear hw hkk hk
  go_enter Tryz.func193, Tryz.ntmps193
  go_wp2
  refine bodyPost_ret (by simp [results, Tryz.results193, go_sem]; rfl) rfl ?_
  exact ⟨rfl, ((RowKit.Below.refl _ _).alloc (Nat.le_refl _) _).alloc (by simp) _⟩

theorem RowKit.Below.set7 {B : Nat} {a w' : World} {b : Nat} (h : RowKit.Below B a w') (hb : B ≤ b) (u0 u1 u2 u3 u4 u5 u6 : Value) : RowKit.Below B a (((((((w'.setCell ⟨b, 0, none⟩ u0).setCell ⟨b, 1, none⟩ u1).setCell ⟨b, 2, none⟩ u2).setCell ⟨b, 3, none⟩ u3).setCell ⟨b, 4, none⟩ u4).setCell ⟨b, 5, none⟩ u5).setCell ⟨b, 6, none⟩ u6) :=
  ((((((h.setCell (p := ⟨b, 0, none⟩) hb _).setCell (p := ⟨b, 1, none⟩) hb _).setCell (p := ⟨b, 2, none⟩) hb _).setCell (p := ⟨b, 3, none⟩) hb _).setCell (p := ⟨b, 4, none⟩) hb _).setCell (p := ⟨b, 5, none⟩) hb _).setCell (p := ⟨b, 6, none⟩) hb _

set_option maxHeartbeats 1000000 in
theorem vvalue_no (s : ByteArray) (b : Nat) (w : World) (hz : 0 < s.size) (hc : begins (s[0]'hz)) (hw : w.heap[b]? = some (.cells #[.string s] 175 (0, 0))) : Calls Tryz.prog 139 #[.pointer (some ⟨b, 0, none⟩)] w fun e w' => e = .returned (.tuple #[.agg zeroV, .bool false]) ∧ RowKit.Below w.heap.size w w' := by
  have hlt := (Array.getElem?_eq_some_iff.1 hw).1
  have hw0 : (w.alloc (.cells zeroV 43 (0, 0))).heap[b]? = some (.cells #[.string s] 175 (0, 0)) := (heapOld w _ hlt).trans hw
  have C1 := Lib.hid fun w hw => vskip_no s b w hz hc hw
  have C2 := Lib.hid fun w hw => vcell_no s b w hz hc hw
  have HW := Lib.hid hw0
  have hx := Lib.hid (heapNew w (.cells zeroV 43 (0, 0)))
  have B0 := Lib.hid ((RowKit.Below.refl w.heap.size w).alloc (Nat.le_refl _) (.cells zeroV 43 (0, 0)))
  clear hw hw0 hc
  go_enter Tryz.func139, Tryz.ntmps139
  go_wp2_with (first
    | (go_at_call 191; (with_reducible refine (C1.out _ HW.out).mono ?_); rintro e w1 ⟨rfl, rfl⟩)
    | (go_at_call 193; (with_reducible refine (C2.out _ HW.out).mono ?_); rintro e w2 ⟨rfl, hb2⟩; have hx2 := (hb2.block _ (by simp)).trans hx.out; have p0 := cellOf (i := 0) hx2 rfl; have p1 := cellOf (i := 1) hx2 rfl; have p2 := cellOf (i := 2) hx2 rfl; have p3 := cellOf (i := 3) hx2 rfl; have p4 := cellOf (i := 4) hx2 rfl; have p5 := cellOf (i := 5) hx2 rfl; have p6 := cellOf (i := 6) hx2 rfl; have z0 := frozenOf (i := 0) hx2; have z1 := frozenOf (i := 1) hx2; have z2 := frozenOf (i := 2) hx2; have z3 := frozenOf (i := 3) hx2; have z4 := frozenOf (i := 4) hx2; have z5 := frozenOf (i := 5) hx2; have z6 := frozenOf (i := 6) hx2; have B2 := Lib.hid (B0.out.trans (hb2.mono (by simp)))))
  refine bodyPost_ret (by simp [results, Tryz.results139, go_sem, p0, p1, p2, p3, p4, p5, p6]; rfl) rfl ?_
  exact ⟨rfl, RowKit.Below.set7 B2.out (Nat.le_refl _) _ _ _ _ _ _ _⟩

end Go.EvProp

namespace Go.EvProp
open Go Go.Ev Go.Proofs Go.RowKit Go.Lib
set_option maxRecDepth 100000

set_option maxHeartbeats 1000000 in
theorem vread_no (s : ByteArray) (w : World) (hz : 0 < s.size) (hc : begins (s[0]'hz)) : Calls Tryz.prog 73 #[.string s] w fun e w' => e = .returned (.tuple #[.agg zeroV, .bool false]) ∧ RowKit.Below w.heap.size w w' := by
  have T := Lib.hid (two w (.cells zeroV 43 (0, 0)) (.cells #[.string s] 175 (0, 0)))
  have C1 := Lib.hid fun b w hw => vvalue_no s b w hz hc hw
  clear hc
  go_enter Tryz.func73, Tryz.ntmps73
  go_wp2_with (first
    | (go_at_call 139; (with_reducible refine (C1.out _ _ T.out.q).mono ?_); rintro e w2 ⟨rfl, hb2⟩; have T2 := Lib.hid (T.out.below hb2); have p0 := cellOf (i := 0) T2.out.p rfl; have p1 := cellOf (i := 1) T2.out.p rfl; have p2 := cellOf (i := 2) T2.out.p rfl; have p3 := cellOf (i := 3) T2.out.p rfl; have p4 := cellOf (i := 4) T2.out.p rfl; have p5 := cellOf (i := 5) T2.out.p rfl; have p6 := cellOf (i := 6) T2.out.p rfl; have z0 := frozenOf (i := 0) T2.out.p; have z1 := frozenOf (i := 1) T2.out.p; have z2 := frozenOf (i := 2) T2.out.p; have z3 := frozenOf (i := 3) T2.out.p; have z4 := frozenOf (i := 4) T2.out.p; have z5 := frozenOf (i := 5) T2.out.p; have z6 := frozenOf (i := 6) T2.out.p; have l2 : w.heap.size < w2.heap.size := (by have := T2.out.lt; omega)))
  refine bodyPost_ret (by simp [results, Tryz.results73, go_sem, p0, p1, p2, p3, p4, p5, p6, l2]; rfl) rfl ?_
  exact ⟨rfl, (RowKit.Below.set7 T2.out.h (Nat.le_refl _) _ _ _ _ _ _ _).alloc (by have := T2.out.h.size; simp; omega) _⟩

set_option maxHeartbeats 1000000 in
theorem colIndex_no (s : ByteArray) (b o cap : Nat) (w : World) (hne : s ≠ ⟨#[100]⟩) (c0 : w.cell? ⟨b, o, none⟩ = some (.string ⟨#[100]⟩)) (c1 : w.cell? ⟨b, o + 1, none⟩ = some (.int .i64 3)) : Calls Tryz.prog 74 #[.slice (some ⟨b, o, none⟩) 1 cap, .agg #[.string s, .int .i64 3]] w fun e w' => e = .returned (.int .i64 (-1)) ∧ RowKit.Below w.heap.size w w' := by
  have hl1 : ¬ s.toList = [100] := fun e => hne (ba_ext (by rw [← Lib.toList_data, e]))
  have hl2 : (s.toList == [100]) = false := by rw [beq_eq_false_iff_ne]; exact hl1
  have hl3 : (s == (⟨#[100]⟩ : ByteArray)) = false := by
    cases hh : (s == (⟨#[100]⟩ : ByteArray)) with
    | false => rfl
    | true =>
      have : s.data == #[100] := hh
      exact absurd (ba_ext (by rw [eq_of_beq this])) hne
  have hlt : b < w.heap.size := World.block_lt_of_cell? w _ c0
  have g0 : (w.alloc (.cells #[.string s, .int .i64 3] 28 (0, 0))).cell? ⟨w.heap.size, 0, none⟩ = some (.string s) := cellOf (i := 0) (heapNew w _) rfl
  have g1 : (w.alloc (.cells #[.string s, .int .i64 3] 28 (0, 0))).cell? ⟨w.heap.size, 1, none⟩ = some (.int .i64 3) := cellOf (i := 1) (heapNew w _) rfl
  have g2 : (w.alloc (.cells #[.string s, .int .i64 3] 28 (0, 0))).cell? ⟨b, o, none⟩ = some (.string ⟨#[100]⟩) := by rw [← c0]; exact World.cell?_of_block (w := w) (heapOld w _ hlt)
  have g3 : (w.alloc (.cells #[.string s, .int .i64 3] 28 (0, 0))).cell? ⟨b, o + 1, none⟩ = some (.int .i64 3) := by rw [← c1]; exact World.cell?_of_block (w := w) (heapOld w _ hlt)
  have B0 := Lib.hid ((RowKit.Below.refl w.heap.size w).alloc (Nat.le_refl _) (.cells #[.string s, .int .i64 3] 28 (0, 0)))
  clear c0 c1
  go_enter Tryz.func74, Tryz.ntmps74
  go_wp2
  generalize w.alloc (.cells #[.string s, .int .i64 3] 28 (0, 0)) = w1 at *
  obtain ⟨n, hn⟩ : ∃ n, Hid (n = w.heap.size) := ⟨w.heap.size, Lib.hid rfl⟩
  rw [← hn.out] at g0 g1
  rw [← hn.out]
  refine wp_loop_rounds 2 ?_
  rw [rounds_succ]
  go_wp2
  go_region_held3 (fun W => W.cell? ⟨n, 0, none⟩ = some (.string s) ∧ W.cell? ⟨n, 1, none⟩ = some (.int .i64 3) ∧ W.cell? ⟨b, o, none⟩ = some (.string ⟨#[100]⟩) ∧ W.cell? ⟨b, o + 1, none⟩ = some (.int .i64 3)) (first | exact ⟨g0, g1, g2, g3⟩ | go_keep) (fail)
  go_wp2
  rw [rounds_succ]
  go_wp2
  go_ret
  exact ⟨rfl, B0.out.drew⟩


set_option maxHeartbeats 1000000 in
theorem notbefore_any (N M : Int) (bi oi bc oc ba oa cap : Nat) (w : World) (h5 : w.cell? ⟨bi, oi + 5, none⟩ = some (.slice (some ⟨ba, oa, none⟩) 1 cap)) (hc : w.cell? ⟨bc, oc, none⟩ = some (.int .i64 0)) (ha0 : w.cell? ⟨ba, oa, none⟩ = some (.int .i64 3)) (ha4 : w.cell? ⟨ba, oa + 4, none⟩ = some (.int .i64 M)) : Calls Tryz.prog 84 #[.agg (dateC N), .pointer (some ⟨bi, oi, none⟩), .pointer (some ⟨bc, oc, none⟩)] w fun e w' => RetBool (decide (M ≤ N)) e ∧ RowKit.Below w.heap.size w w' := by
  have l1 := World.block_lt_of_cell? w _ h5
  have l2 := World.block_lt_of_cell? w _ hc
  have l3 := World.block_lt_of_cell? w _ ha0
  have l1 : bi < w.heap.size := l1
  have l2 : bc < w.heap.size := l2
  have l3 : ba < w.heap.size := l3
  have g4 : (w.alloc (.cells (dateC N) 43 (0, 0))).cell? ⟨w.heap.size, 4, none⟩ = some (.int .i64 N) := cellOf (i := 4) (heapNew w _) rfl
  have g1 : (w.alloc (.cells (dateC N) 43 (0, 0))).cell? ⟨bi, oi + 5, none⟩ = some (.slice (some ⟨ba, oa, none⟩) 1 cap) := by rw [← h5]; exact World.cell?_of_block (w := w) (heapOld w _ l1)
  have g2 : (w.alloc (.cells (dateC N) 43 (0, 0))).cell? ⟨bc, oc, none⟩ = some (.int .i64 0) := by rw [← hc]; exact World.cell?_of_block (w := w) (heapOld w _ l2)
  have g3 : (w.alloc (.cells (dateC N) 43 (0, 0))).cell? ⟨ba, oa, none⟩ = some (.int .i64 3) := by rw [← ha0]; exact World.cell?_of_block (w := w) (heapOld w _ l3)
  have g5 : (w.alloc (.cells (dateC N) 43 (0, 0))).cell? ⟨ba, oa + 4, none⟩ = some (.int .i64 M) := by rw [← ha4]; exact World.cell?_of_block (w := w) (heapOld w _ l3)
  have B0 := Lib.hid ((RowKit.Below.refl w.heap.size w).alloc (Nat.le_refl _) (.cells (dateC N) 43 (0, 0)))
  clear h5 hc ha0 ha4 l1 l2 l3
  go_enter Tryz.func84, Tryz.ntmps84
  go_wp2
  generalize w.alloc (.cells (dateC N) 43 (0, 0)) = w1 at *
  obtain ⟨n, hn⟩ : ∃ n, Hid (n = w.heap.size) := ⟨w.heap.size, Lib.hid rfl⟩
  rw [← hn.out] at g4
  rw [← hn.out]
  go_region_held3 (fun W => W.cell? ⟨n, 4, none⟩ = some (.int .i64 N) ∧ W.cell? ⟨bi, oi + 5, none⟩ = some (.slice (some ⟨ba, oa, none⟩) 1 cap) ∧ W.cell? ⟨bc, oc, none⟩ = some (.int .i64 0) ∧ W.cell? ⟨ba, oa, none⟩ = some (.int .i64 3) ∧ W.cell? ⟨ba, oa + 4, none⟩ = some (.int .i64 M)) (first | exact ⟨g4, g1, g2, g3, g5⟩ | go_keep) (fail)
  go_wp2
  go_ret
  exact ⟨rfl, B0.out.drew⟩
end Go.EvProp
