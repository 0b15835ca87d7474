/-
  The two patterns that the run sanity() parses, with their recover.
-/
import Derived.Test.YtcooocbhkkmiaaaGreatDoorRdr
import Derived.Test.YtcooocbhkkmiaaaGreatDoorTab
set_option linter.all false
namespace Go.EvProp
open Go Go.Ev Go.Proofs Go.RowKit
set_option maxRecDepth 100000

def faultV : Value := .agg #[.int .i64 1, .int .i64 12]
def thePanic (r : Bool) : PanicEntry := { v := .iface 179 faultV, recovered := r }

theorem opsS_value {P : Program} {ops : Array Oper} {Q : Exit → Act → List Frame → World → Prop} {i : Nat} {rest : List Nat} {a a' : Act} {cs : List Frame} {w w' : World} {o : Oper} {v : Value} (ho : ops[i]? = some o) (hw : Region.wanted o (yielded ops a.tmps) = true) (hr : (execOp a.eval o).run P w = .ok (.value v) w') (ha : a.put o.dst v = a') (h : wpOpsS P ops Q rest a' cs w') : wpOpsS P ops Q (i :: rest) a cs w := by
  simp only [wpOpsS, ho, hw, if_true, hr, Oper.upon]
  rw [ha]; exact h
theorem opsS_skip {P : Program} {ops : Array Oper} {Q : Exit → Act → List Frame → World → Prop} {i : Nat} {rest : List Nat} {a a' : Act} {cs : List Frame} {w w' : World} {o : Oper} (ho : ops[i]? = some o) (hw : Region.wanted o (yielded ops a.tmps) = true) (hr : (execOp a.eval o).run P w = .ok .skip w') (ha : a.put o.dst undef = a') (h : wpOpsS P ops Q rest a' cs w') : wpOpsS P ops Q (i :: rest) a cs w := by
  simp only [wpOpsS, ho, hw, if_true, hr, Oper.upon]
  rw [ha]; exact h
theorem opsS_recover {P : Program} {ops : Array Oper} {Q : Exit → Act → List Frame → World → Prop} {i : Nat} {rest : List Nat} {a a' : Act} {cs cs' : List Frame} {w w' : World} {o : Oper} {v : Value} (ho : ops[i]? = some o) (hw : Region.wanted o (yielded ops a.tmps) = true) (hr : (execOp a.eval o).run P w = .ok .recover w') (hd : recoverD cs = some (v, cs')) (ha : a.put o.dst v = a') (h : wpOpsS P ops Q rest a' cs' w') : wpOpsS P ops Q (i :: rest) a cs w := by
  simp only [wpOpsS, ho, hw, if_true, hr, hd]
  rw [ha]; exact h
theorem opsS_norecover {P : Program} {ops : Array Oper} {Q : Exit → Act → List Frame → World → Prop} {i : Nat} {rest : List Nat} {a a' : Act} {cs : List Frame} {w w' : World} {o : Oper} (ho : ops[i]? = some o) (hw : Region.wanted o (yielded ops a.tmps) = true) (hr : (execOp a.eval o).run P w = .ok .recover w') (hd : recoverD cs = none) (ha : a.put o.dst .nilIface = a') (h : wpOpsS P ops Q rest a' cs w') : wpOpsS P ops Q (i :: rest) a cs w := by
  simp only [wpOpsS, ho, hw, if_true, hr, hd]
  rw [ha]; exact h

def actC (bp ba be : Nat) (x3 x4 x5 x6 x7 x8 x9 x10 : Value) : Act := { tmps := #[.pointer (some ⟨bp, 0, none⟩), .pointer (some ⟨ba, 0, none⟩), .pointer (some ⟨be, 0, none⟩), x3, x4, x5, x6, x7, x8, x9, x10, undef, undef, undef, undef], defers := [] }

set_option maxHeartbeats 400000 in
theorem catch_panic (w : World) (bp ba be : Nat) (vp va ve : Value) (hp : w.heap[bp]? = some (.cells #[vp] 125 (0, 0))) (ha : w.heap[ba]? = some (.cells #[va] 3 (0, 0))) (he : w.heap[be]? = some (.cells #[ve] 50 (0, 0))) :
    CallsD Tryz.prog 141 #[.pointer (some ⟨bp, 0, none⟩), .pointer (some ⟨ba, 0, none⟩), .pointer (some ⟨be, 0, none⟩)] (.panicking [thePanic false]) w fun e u' w' =>
      e = .returned (.tuple #[]) ∧ u' = .panicking [thePanic true] ∧ w'.cell? ⟨bp, 0, none⟩ = some (.slice none 0 0) ∧ w'.cell? ⟨ba, 0, none⟩ = some (.int .i64 1) ∧ w'.cell? ⟨be, 0, none⟩ = some (.int .i64 12) ∧ ∀ base, base ≤ bp → base ≤ ba → base ≤ be → base ≤ w.heap.size → Below base w w' := by
  refine callsD_of_wpS Tryz.func141 rfl fun c₀ cs hu => ?_
  apply wpS_seq
  apply wpS_region
  have hd : recoverD (c₀ :: cs) = some (.iface 179 faultV, { c₀ with mode := .panicking [thePanic true] } :: cs) := by
    simp [recoverD, hu, thePanic]
  rw [Tryz.ntmps141]
  generalize hcs : { c₀ with mode := .panicking [thePanic true] } :: cs = cs'
  have a0 : ({ tmps := #[.pointer (some ⟨bp, 0, none⟩), .pointer (some ⟨ba, 0, none⟩), .pointer (some ⟨be, 0, none⟩)] ++ Array.replicate (15 - (#[Value.pointer (some ⟨bp, 0, none⟩), .pointer (some ⟨ba, 0, none⟩), .pointer (some ⟨be, 0, none⟩)] : Array Value).size) undef, defers := [] } : Act) = actC bp ba be undef undef undef undef undef undef undef undef := by kernel_rfl
  rw [a0]
  rw [List.range_eq_range']
  simp only [List.size_toArray, List.length_cons, List.length_nil, Nat.reduceAdd]
  rw [show List.range' 0 8 = [0, 1, 2, 3, 4, 5, 6, 7] from rfl]
  generalize hops : (#[_, _, _, _, _, _, _, _] : Array Oper) = ops
  refine opsS_recover (ops := ops) (a' := actC bp ba be undef undef undef (.iface 179 faultV) undef undef undef undef) (w' := w) (by subst hops; rfl) (by subst hops; kernel_rfl) (by kernel_rfl) hd (by kernel_rfl) ?_
  refine opsS_value (v := .tuple #[faultV, .bool true]) (a' := actC bp ba be undef undef undef (.iface 179 faultV) (.tuple #[faultV, .bool true]) undef undef undef) (w' := w) (by subst hops; rfl) (by subst hops; kernel_rfl) (by kernel_rfl) (by kernel_rfl) ?_
  refine opsS_value (v := .tuple #[faultV, .bool true]) (a' := actC bp ba be undef undef (.tuple #[faultV, .bool true]) (.iface 179 faultV) (.tuple #[faultV, .bool true]) undef undef undef) (w' := w) (by subst hops; rfl) (by subst hops; kernel_rfl) (by kernel_rfl) (by kernel_rfl) ?_
  refine opsS_value (v := faultV) (a' := actC bp ba be undef undef (.tuple #[faultV, .bool true]) (.iface 179 faultV) (.tuple #[faultV, .bool true]) faultV undef undef) (w' := w) (by subst hops; rfl) (by subst hops; kernel_rfl) (by kernel_rfl) (by kernel_rfl) ?_
  refine opsS_value (v := .bool true) (a' := actC bp ba be undef undef (.tuple #[faultV, .bool true]) (.iface 179 faultV) (.tuple #[faultV, .bool true]) faultV (.bool true) undef) (w' := w) (by subst hops; rfl) (by subst hops; kernel_rfl) (by kernel_rfl) (by kernel_rfl) ?_
  refine opsS_value (v := .pointer (some ⟨w.heap.size, 0, none⟩)) (a' := actC bp ba be (.pointer (some ⟨w.heap.size, 0, none⟩)) undef (.tuple #[faultV, .bool true]) (.iface 179 faultV) (.tuple #[faultV, .bool true]) faultV (.bool true) undef) (w' := w.alloc (.cells #[.int .i64 0, .int .i64 0] 179 (0, 0))) (by subst hops; rfl) (by subst hops; kernel_rfl) (by kernel_rfl) (by kernel_rfl) ?_
  refine opsS_skip (a' := actC bp ba be (.pointer (some ⟨w.heap.size, 0, none⟩)) undef (.tuple #[faultV, .bool true]) (.iface 179 faultV) (.tuple #[faultV, .bool true]) faultV (.bool true) undef) (w' := w.alloc (.cells #[.int .i64 1, .int .i64 12] 179 (0, 0))) (by subst hops; rfl) (by subst hops; kernel_rfl) (by simp [go_sem, execOp, actC, Act.eval, faultV]) (by kernel_rfl) ?_
  refine opsS_value (v := .bool true) (a' := actC bp ba be (.pointer (some ⟨w.heap.size, 0, none⟩)) (.bool true) (.tuple #[faultV, .bool true]) (.iface 179 faultV) (.tuple #[faultV, .bool true]) faultV (.bool true) undef) (w' := w.alloc (.cells #[.int .i64 1, .int .i64 12] 179 (0, 0))) (by subst hops; rfl) (by subst hops; kernel_rfl) (by kernel_rfl) (by kernel_rfl) ?_
  clear hops a0 hd
  show Code.wpS _ _ _ _ _ _
  refine wpS_of_wp ?_
  unfold actC
  have g0 : bp < w.heap.size := (Array.getElem?_eq_some_iff.1 hp).1
  have g1 : ba < w.heap.size := (Array.getElem?_eq_some_iff.1 ha).1
  have g2 : be < w.heap.size := (Array.getElem?_eq_some_iff.1 he).1
  have c0 : w.cell? ⟨bp, 0, none⟩ = some vp := by simp [World.cell?, hp]
  have c1 : w.cell? ⟨ba, 0, none⟩ = some va := by simp [World.cell?, ha]
  have c2 : w.cell? ⟨be, 0, none⟩ = some ve := by simp [World.cell?, he]
  have z0 : w.frozen? ⟨bp, 0, none⟩ = false := by simp [World.frozen?, hp]
  have z1 : w.frozen? ⟨ba, 0, none⟩ = false := by simp [World.frozen?, ha]
  have z2 : w.frozen? ⟨be, 0, none⟩ = false := by simp [World.frozen?, he]
  have n1 : bp ≠ ba := fun e => by subst e; rw [hp] at ha; simp at ha
  have n2 : bp ≠ be := fun e => by subst e; rw [hp] at he; simp at he
  have n3 : ba ≠ be := fun e => by subst e; rw [ha] at he; simp at he
  have n4 : bp ≠ w.heap.size := by omega
  have n5 : ba ≠ w.heap.size := by omega
  have n6 : be ≠ w.heap.size := by omega
  have k0 := Below.alloc (Below.refl w.heap.size w) (Nat.le_refl _) (.cells #[.int .i64 1, .int .i64 12] 179 (0, 0))
  have c3 : (w.alloc (.cells #[.int .i64 1, .int .i64 12] 179 (0, 0))).cell? ⟨w.heap.size, 0, none⟩ = some (.int .i64 1) := cellOf (i := 0) (heapNew w _) rfl
  have c4 : (w.alloc (.cells #[.int .i64 1, .int .i64 12] 179 (0, 0))).cell? ⟨w.heap.size, 1, none⟩ = some (.int .i64 12) := cellOf (i := 1) (heapNew w _) rfl
  have c0' := (k0.cell (p := ⟨bp, 0, none⟩) g0).trans c0
  have c1' := (k0.cell (p := ⟨ba, 0, none⟩) g1).trans c1
  have c2' := (k0.cell (p := ⟨be, 0, none⟩) g2).trans c2
  have z0' := (k0.frozen (p := ⟨bp, 0, none⟩) g0).trans z0
  have z1' := (k0.frozen (p := ⟨ba, 0, none⟩) g1).trans z1
  have z2' := (k0.frozen (p := ⟨be, 0, none⟩) g2).trans z2
  have K0 := Lib.hid k0
  clear k0
  generalize w.alloc (.cells #[.int .i64 1, .int .i64 12] 179 (0, 0)) = W at *
  obtain ⟨nb, hnb⟩ : ∃ nb, Hid (nb = w.heap.size) := ⟨_, rfl⟩
  rw [← hnb.out] at c3 c4 n4 n5 n6
  rw [← hnb.out]
  clear hp ha he hcs c0 c1 c2 z0 z1 z2 g0 g1 g2
  go_wp2
  go_region_held3 (fun W => W.cell? ⟨nb, 0, none⟩ = some (.int .i64 1) ∧ W.cell? ⟨nb, 1, none⟩ = some (.int .i64 12)) (go_keep) (fail)
  show bodyPostS _ _ _ _ _ _ _ _ _
  refine ⟨rfl, _, rfl, .tuple #[], by simp [results, Tryz.results141], rfl, rfl, ?_, ?_, ?_, ?_⟩
  · simp [go_sem, n1, n2, n3, c0', c1', c2', Ne.symm n1, Ne.symm n2, Ne.symm n3]
  · simp [go_sem, n1, n2, n3, c0', c1', c2', Ne.symm n1, Ne.symm n2, Ne.symm n3]
  · simp [go_sem, n1, n2, n3, c0', c1', c2', Ne.symm n1, Ne.symm n2, Ne.symm n3]
  · intro base h1 h2 h3 h4
    rw [hnb.out] at h4
    exact (Below.setCell (Below.setCell (Below.setCell (K0.out.mono h4) (p := ⟨bp, 0, none⟩) h1 _) (p := ⟨ba, 0, none⟩) h2 _) (p := ⟨be, 0, none⟩) h3 _).drew

def zeroFault : Value := .agg #[.int .i64 0, .int .i64 0]
set_option maxHeartbeats 400000 in
theorem catch_idle (w : World) (bp ba be : Nat) :
    CallsD Tryz.prog 141 #[.pointer (some ⟨bp, 0, none⟩), .pointer (some ⟨ba, 0, none⟩), .pointer (some ⟨be, 0, none⟩)] .returning w fun e u' w' =>
      e = .returned (.tuple #[]) ∧ u' = .returning ∧ Below w.heap.size w w' := by
  refine callsD_of_wpS Tryz.func141 rfl fun c₀ cs hu => ?_
  apply wpS_seq
  apply wpS_region
  have hd : recoverD (c₀ :: cs) = none := by
    simp [recoverD, hu]
  rw [Tryz.ntmps141]
  have a0 : ({ tmps := #[.pointer (some ⟨bp, 0, none⟩), .pointer (some ⟨ba, 0, none⟩), .pointer (some ⟨be, 0, none⟩)] ++ Array.replicate (15 - (#[Value.pointer (some ⟨bp, 0, none⟩), .pointer (some ⟨ba, 0, none⟩), .pointer (some ⟨be, 0, none⟩)] : Array Value).size) undef, defers := [] } : Act) = actC bp ba be undef undef undef undef undef undef undef undef := by kernel_rfl
  rw [a0]
  rw [List.range_eq_range']
  simp only [List.size_toArray, List.length_cons, List.length_nil, Nat.reduceAdd]
  rw [show List.range' 0 8 = [0, 1, 2, 3, 4, 5, 6, 7] from rfl]
  generalize hops : (#[_, _, _, _, _, _, _, _] : Array Oper) = ops
  refine opsS_norecover (ops := ops) (a' := actC bp ba be undef undef undef .nilIface undef undef undef undef) (w' := w) (by subst hops; rfl) (by subst hops; kernel_rfl) (by kernel_rfl) hd (by kernel_rfl) ?_
  refine opsS_value (v := .tuple #[zeroFault, .bool false]) (a' := actC bp ba be undef undef undef .nilIface (.tuple #[zeroFault, .bool false]) undef undef undef) (w' := w) (by subst hops; rfl) (by subst hops; kernel_rfl) (by kernel_rfl) (by kernel_rfl) ?_
  refine opsS_value (v := .tuple #[zeroFault, .bool false]) (a' := actC bp ba be undef undef (.tuple #[zeroFault, .bool false]) .nilIface (.tuple #[zeroFault, .bool false]) undef undef undef) (w' := w) (by subst hops; rfl) (by subst hops; kernel_rfl) (by kernel_rfl) (by kernel_rfl) ?_
  refine opsS_value (v := zeroFault) (a' := actC bp ba be undef undef (.tuple #[zeroFault, .bool false]) .nilIface (.tuple #[zeroFault, .bool false]) zeroFault undef undef) (w' := w) (by subst hops; rfl) (by subst hops; kernel_rfl) (by kernel_rfl) (by kernel_rfl) ?_
  refine opsS_value (v := .bool false) (a' := actC bp ba be undef undef (.tuple #[zeroFault, .bool false]) .nilIface (.tuple #[zeroFault, .bool false]) zeroFault (.bool false) undef) (w' := w) (by subst hops; rfl) (by subst hops; kernel_rfl) (by kernel_rfl) (by kernel_rfl) ?_
  refine opsS_value (v := .pointer (some ⟨w.heap.size, 0, none⟩)) (a' := actC bp ba be (.pointer (some ⟨w.heap.size, 0, none⟩)) undef (.tuple #[zeroFault, .bool false]) .nilIface (.tuple #[zeroFault, .bool false]) zeroFault (.bool false) undef) (w' := w.alloc (.cells #[.int .i64 0, .int .i64 0] 179 (0, 0))) (by subst hops; rfl) (by subst hops; kernel_rfl) (by kernel_rfl) (by kernel_rfl) ?_
  refine opsS_skip (a' := actC bp ba be (.pointer (some ⟨w.heap.size, 0, none⟩)) undef (.tuple #[zeroFault, .bool false]) .nilIface (.tuple #[zeroFault, .bool false]) zeroFault (.bool false) undef) (w' := w.alloc (.cells #[.int .i64 0, .int .i64 0] 179 (0, 0))) (by subst hops; rfl) (by subst hops; kernel_rfl) (by simp [go_sem, execOp, actC, Act.eval, zeroFault]) (by kernel_rfl) ?_
  refine opsS_value (v := .bool false) (a' := actC bp ba be (.pointer (some ⟨w.heap.size, 0, none⟩)) (.bool false) (.tuple #[zeroFault, .bool false]) .nilIface (.tuple #[zeroFault, .bool false]) zeroFault (.bool false) undef) (w' := w.alloc (.cells #[.int .i64 0, .int .i64 0] 179 (0, 0))) (by subst hops; rfl) (by subst hops; kernel_rfl) (by kernel_rfl) (by kernel_rfl) ?_
  clear hops a0 hd
  show Code.wpS _ _ _ _ _ _
  refine wpS_of_wp ?_
  unfold actC
  go_wp2
  refine ⟨rfl, .returning, ?_, .tuple #[], by simp [results, Tryz.results141], rfl, rfl, (Below.refl _ _).alloc (Nat.le_refl _) _⟩
  cases c₀
  simp_all

theorem Stays.new {base g : Nat} {a b c : World} (h : Below base a b) (k : Stays g b c) (hg : base ≤ g) (hb : base ≤ b.heap.size) : Below base a c :=
  ⟨k.os.trans h.os, k.tape.trans h.tape, k.output.trans h.output, Nat.le_trans h.size k.size, fun r hr => (k.block r (by omega) (by omega)).trans (h.block r hr)⟩

/-- Four new variables. -/
structure Four (w W : World) (s : ByteArray) (bp ba be g : Nat) : Prop where
  p : W.heap[bp]? = some (.cells #[.slice none 0 0] 125 (0, 0))
  a : W.heap[ba]? = some (.cells #[.int .i64 0] 3 (0, 0))
  e : W.heap[be]? = some (.cells #[.int .i64 0] 50 (0, 0))
  r : W.heap[g]? = some (.cells #[.string s, .int .i64 0, .slice none 0 0] 183 (0, 0))
  h : Below w.heap.size w W
  hp : w.heap.size ≤ bp
  ha : w.heap.size ≤ ba
  he : w.heap.size ≤ be
  hg : w.heap.size ≤ g
  lt : bp < g ∧ ba < g ∧ be < g ∧ g < W.heap.size

theorem four (w : World) (s : ByteArray) : Four w ((((w.alloc (.cells #[.slice none 0 0] 125 (0, 0))).alloc (.cells #[.int .i64 0] 3 (0, 0))).alloc (.cells #[.int .i64 0] 50 (0, 0))).alloc (.cells #[.string s, .int .i64 0, .slice none 0 0] 183 (0, 0))) s w.heap.size (w.heap.size + 1) (w.heap.size + 1 + 1) (w.heap.size + 1 + 1 + 1) := by
  have s1 := sizeNew w (.cells #[.slice none 0 0] 125 (0, 0))
  have h1 := heapNew w (.cells #[.slice none 0 0] 125 (0, 0))
  have b1 := Below.alloc (Below.refl w.heap.size w) (Nat.le_refl _) (.cells #[.slice none 0 0] 125 (0, 0))
  generalize w.alloc (.cells #[.slice none 0 0] 125 (0, 0)) = w1 at *
  have s2 := sizeNew w1 (.cells #[.int .i64 0] 3 (0, 0))
  have h2 := heapNew w1 (.cells #[.int .i64 0] 3 (0, 0))
  have o2 := fun {k} => heapOld w1 (.cells #[.int .i64 0] 3 (0, 0)) (k := k)
  have b2 := b1.alloc (by omega) (.cells #[.int .i64 0] 3 (0, 0))
  generalize w1.alloc (.cells #[.int .i64 0] 3 (0, 0)) = w2 at *
  have s3 := sizeNew w2 (.cells #[.int .i64 0] 50 (0, 0))
  have h3 := heapNew w2 (.cells #[.int .i64 0] 50 (0, 0))
  have o3 := fun {k} => heapOld w2 (.cells #[.int .i64 0] 50 (0, 0)) (k := k)
  have b3 := b2.alloc (by omega) (.cells #[.int .i64 0] 50 (0, 0))
  generalize w2.alloc (.cells #[.int .i64 0] 50 (0, 0)) = w3 at *
  have s4 := sizeNew w3 (.cells #[.string s, .int .i64 0, .slice none 0 0] 183 (0, 0))
  have h4 := heapNew w3 (.cells #[.string s, .int .i64 0, .slice none 0 0] 183 (0, 0))
  have o4 := fun {k} => heapOld w3 (.cells #[.string s, .int .i64 0, .slice none 0 0] 183 (0, 0)) (k := k)
  have b4 := b3.alloc (by omega) (.cells #[.string s, .int .i64 0, .slice none 0 0] 183 (0, 0))
  generalize w3.alloc (.cells #[.string s, .int .i64 0, .slice none 0 0] 183 (0, 0)) = w4 at *
  have e1 : w1.heap.size = w.heap.size + 1 := by omega
  have e2 : w2.heap.size = w.heap.size + 1 + 1 := by omega
  have e3 : w3.heap.size = w.heap.size + 1 + 1 + 1 := by omega
  refine ⟨?_, ?_, ?_, ?_, b4, by omega, by omega, by omega, by omega, by omega⟩
  · rw [o4 (by omega), o3 (by omega), o2 (by omega)]; exact h1
  · rw [o4 (by omega), o3 (by omega), ← e1]; exact h2
  · rw [o4 (by omega), ← e2]; exact h3
  · rw [← e3]; exact h4

set_option maxHeartbeats 2000000 in
theorem parse_x (w : World) : Calls Tryz.prog 78 #[.string (bytesOf [120, 43])] w fun e w' => e = .returned (.tuple #[.slice none 0 0, .int .i64 1, .int .i64 12]) ∧ Below w.heap.size w w' := by
  have hmf : ∀ (fn : Fn) (first cap : Array Value) (w : World), (Instr.makeFunc fn first cap).run Tryz.prog w = .ok (.func fn first cap) w := fun _ _ _ _ => rfl
  have hsz : (bytesOf [120, 43]).size = 2 := rfl
  have F := four w (bytesOf [120, 43])
  generalize hs0 : bytesOf [120, 43] = s0 at *
  go_enter_defers Tryz.func78, Tryz.ntmps78
  go_wp2
  generalize ((((w.alloc (.cells #[.slice none 0 0] 125 (0, 0))).alloc (.cells #[.int .i64 0] 3 (0, 0))).alloc (.cells #[.int .i64 0] 50 (0, 0))).alloc (.cells #[.string s0, .int .i64 0, .slice none 0 0] 183 (0, 0))) = W at *
  generalize hbp : w.heap.size + 1 + 1 + 1 = g at *
  generalize hbe : w.heap.size + 1 + 1 = be at *
  generalize hba : w.heap.size + 1 = ba at *
  obtain ⟨bp, hbp'⟩ : ∃ bp, Hid (bp = w.heap.size) := ⟨_, rfl⟩
  have F' := Lib.hid F
  rw [← hbp'.out] at F
  rw [← hbp'.out]
  have c1 : W.cell? ⟨g, 1, none⟩ = some (.int .i64 0) := by simp [World.cell?, F.r]
  refine wp_loop_rounds 2 ?_
  rw [rounds_succ]
  go_wp2_with (go_at_call 142; refine (next_x1 g _ (by rw [hs0]; exact F.r)).mono ?_; rintro e W1 ⟨rfl, hS1, v1, fz1, ho1, hr1⟩; rw [hs0] at hr1; have c2 : W1.cell? ⟨g, 1, none⟩ = some (.int .i64 1) := (by simp [World.cell?, hr1]))
  rw [rounds_succ]
  have g1 : g < W1.heap.size := (Array.getElem?_eq_some_iff.1 hr1).1
  go_wp2_with (go_at_call 142; refine (next_x2 g _ v1 fz1 ho1 g1 (by rw [hs0]; exact hr1)).mono ?_; rintro e W2 ⟨rfl, hS2⟩)
  have hS := hS1.trans hS2
  have q : bp ≠ g ∧ ba ≠ g ∧ be ≠ g := by have := F'.out.lt; have := hbp'.out; omega
  have q' : bp < W.heap.size ∧ ba < W.heap.size ∧ be < W.heap.size := by have := F'.out.lt; have := hbp'.out; omega
  refine leaves_cons (f := 141) (args := #[.pointer (some ⟨bp, 0, none⟩), .pointer (some ⟨ba, 0, none⟩), .pointer (some ⟨be, 0, none⟩)]) (by simp) (by simp [go_sem]) ?_
  refine (catch_panic _ bp ba be _ _ _ ((hS.block bp q'.1 q.1).trans F.p) ((hS.block ba q'.2.1 q.2.1).trans F.a) ((hS.block be q'.2.2 q.2.2).trans F.e)).mono ?_
  rintro e u' W3 ⟨rfl, rfl, d1, d2, d3, hB⟩
  have hB' := hB w.heap.size (by rw [hbp'.out]; exact Nat.le_refl _) F'.out.ha F'.out.he (Nat.le_trans F'.out.h.size hS.size)
  have HB : Hid (Below w.heap.size w W3) := (Stays.new F'.out.h hS F'.out.hg F'.out.h.size).trans hB'
  simp [Leaves, settle, results, Tryz.results78, go_sem, thePanic, d1, d2, d3]
  exact HB.out

set_option maxHeartbeats 2000000 in
theorem parse_l (w : World) : Calls Tryz.prog 78 #[.string (bytesOf [92, 108, 43])] w fun e w' => ∃ b del tot, e = .returned (.tuple #[.slice (some ⟨b, del, none⟩) 1 (tot / 4), .int .i64 0, .int .i64 0]) ∧ w.heap.size ≤ b ∧ PieceAt w' b del tot ∧ Below w.heap.size w w' := by
  have hmf : ∀ (fn : Fn) (first cap : Array Value) (w : World), (Instr.makeFunc fn first cap).run Tryz.prog w = .ok (.func fn first cap) w := fun _ _ _ _ => rfl
  have hsz : (bytesOf [92, 108, 43]).size = 3 := rfl
  have F := four w (bytesOf [92, 108, 43])
  generalize hs0 : bytesOf [92, 108, 43] = s0 at *
  go_enter_defers Tryz.func78, Tryz.ntmps78
  go_wp2
  generalize ((((w.alloc (.cells #[.slice none 0 0] 125 (0, 0))).alloc (.cells #[.int .i64 0] 3 (0, 0))).alloc (.cells #[.int .i64 0] 50 (0, 0))).alloc (.cells #[.string s0, .int .i64 0, .slice none 0 0] 183 (0, 0))) = W at *
  generalize hbp : w.heap.size + 1 + 1 + 1 = g at *
  generalize hbe : w.heap.size + 1 + 1 = be at *
  generalize hba : w.heap.size + 1 = ba at *
  obtain ⟨bp, hbp'⟩ : ∃ bp, Hid (bp = w.heap.size) := ⟨_, rfl⟩
  have F' := Lib.hid F
  rw [← hbp'.out] at F
  rw [← hbp'.out]
  have c1 : W.cell? ⟨g, 1, none⟩ = some (.int .i64 0) := by simp [World.cell?, F.r]
  have n1 : bp ≠ ba := by have := hbp'.out; omega
  have n2 : bp ≠ be := by have := hbp'.out; omega
  have n3 : ba ≠ be := by omega
  refine wp_loop_rounds 2 ?_
  rw [rounds_succ]
  go_wp2_with (go_at_call 142; refine (next_l g _ F'.out.lt.2.2.2 (by rw [hs0]; exact F.r)).mono ?_; rintro e W1 ⟨rfl, hS1, b1, del1, tot1, fz1, hr1, hge1, hP1⟩; rw [hs0] at hr1; have c2 : W1.cell? ⟨g, 1, none⟩ = some (.int .i64 3) := (by simp [World.cell?, hr1]); have c3 : W1.cell? ⟨g, 2, none⟩ = some (.slice (some ⟨b1, del1, none⟩) 1 (tot1 / 4)) := (by simp [World.cell?, hr1]); have c4 : W1.cell? ⟨bp, 0, none⟩ = some (.slice none 0 0) := (by have := hS1.block bp (by have := F'.out.lt; have := hbp'.out; omega) (by have := F'.out.lt; have := hbp'.out; omega); simp [World.cell?, this, F.p]); have c5 : W1.cell? ⟨ba, 0, none⟩ = some (.int .i64 0) := (by have := hS1.block ba (by have := F'.out.lt; have := hbp'.out; omega) (by have := F'.out.lt; have := hbp'.out; omega); simp [World.cell?, this, F.a]); have c6 : W1.cell? ⟨be, 0, none⟩ = some (.int .i64 0) := (by have := hS1.block be (by have := F'.out.lt; have := hbp'.out; omega) (by have := F'.out.lt; have := hbp'.out; omega); simp [World.cell?, this, F.e]); have z4 : W1.frozen? ⟨bp, 0, none⟩ = false := (by have := hS1.block bp (by have := F'.out.lt; have := hbp'.out; omega) (by have := F'.out.lt; have := hbp'.out; omega); simp [World.frozen?, this, F.p]); have z5 : W1.frozen? ⟨ba, 0, none⟩ = false := (by have := hS1.block ba (by have := F'.out.lt; have := hbp'.out; omega) (by have := F'.out.lt; have := hbp'.out; omega); simp [World.frozen?, this, F.a]); have z6 : W1.frozen? ⟨be, 0, none⟩ = false := (by have := hS1.block be (by have := F'.out.lt; have := hbp'.out; omega) (by have := F'.out.lt; have := hbp'.out; omega); simp [World.frozen?, this, F.e]))
  rw [rounds_succ]
  go_wp2
  have q : bp < W.heap.size ∧ ba < W.heap.size ∧ be < W.heap.size := by have := F'.out.lt; have := hbp'.out; omega
  have hsz1 := hS1.size
  have B1 := Stays.new F'.out.h hS1 F'.out.hg F'.out.h.size
  have B2 : Below w.heap.size w (((W1.setCell ⟨bp, 0, none⟩ (.slice (some ⟨b1, del1, none⟩) 1 (tot1 / 4))).setCell ⟨ba, 0, none⟩ (.int .i64 0)).setCell ⟨be, 0, none⟩ (.int .i64 0)) :=
    ((B1.setCell (p := ⟨bp, 0, none⟩) (by rw [hbp'.out]; exact Nat.le_refl _) _).setCell (p := ⟨ba, 0, none⟩) F'.out.ha _).setCell (p := ⟨be, 0, none⟩) F'.out.he _
  have d1 : (((W1.setCell ⟨bp, 0, none⟩ (.slice (some ⟨b1, del1, none⟩) 1 (tot1 / 4))).setCell ⟨ba, 0, none⟩ (.int .i64 0)).setCell ⟨be, 0, none⟩ (.int .i64 0)).cell? ⟨bp, 0, none⟩ = some (.slice (some ⟨b1, del1, none⟩) 1 (tot1 / 4)) := by
    simp [go_sem, n1, n2, n3, c4, c5, c6, Ne.symm n1, Ne.symm n2, Ne.symm n3]
  have d2 : (((W1.setCell ⟨bp, 0, none⟩ (.slice (some ⟨b1, del1, none⟩) 1 (tot1 / 4))).setCell ⟨ba, 0, none⟩ (.int .i64 0)).setCell ⟨be, 0, none⟩ (.int .i64 0)).cell? ⟨ba, 0, none⟩ = some (.int .i64 0) := by
    simp [go_sem, n1, n2, n3, c4, c5, c6, Ne.symm n1, Ne.symm n2, Ne.symm n3]
  have d3 : (((W1.setCell ⟨bp, 0, none⟩ (.slice (some ⟨b1, del1, none⟩) 1 (tot1 / 4))).setCell ⟨ba, 0, none⟩ (.int .i64 0)).setCell ⟨be, 0, none⟩ (.int .i64 0)).cell? ⟨be, 0, none⟩ = some (.int .i64 0) := by
    simp [go_sem, n1, n2, n3, c4, c5, c6, Ne.symm n1, Ne.symm n2, Ne.symm n3]
  have hb1 : b1 < W1.heap.size := by
    obtain ⟨arr, fz, h, _⟩ := hP1.ex
    exact (Array.getElem?_eq_some_iff.1 h).1
  have d4 : (((W1.setCell ⟨bp, 0, none⟩ (.slice (some ⟨b1, del1, none⟩) 1 (tot1 / 4))).setCell ⟨ba, 0, none⟩ (.int .i64 0)).setCell ⟨be, 0, none⟩ (.int .i64 0)).heap[b1]? = W1.heap[b1]? := by
    rw [Below.heap_setCell _ _ _ _ (by show b1 ≠ be; omega), Below.heap_setCell _ _ _ _ (by show b1 ≠ ba; omega), Below.heap_setCell _ _ _ _ (by show b1 ≠ bp; omega)]
  have d5 : (((W1.setCell ⟨bp, 0, none⟩ (.slice (some ⟨b1, del1, none⟩) 1 (tot1 / 4))).setCell ⟨ba, 0, none⟩ (.int .i64 0)).setCell ⟨be, 0, none⟩ (.int .i64 0)).heap.size = W1.heap.size := by simp
  generalize ((W1.setCell ⟨bp, 0, none⟩ (.slice (some ⟨b1, del1, none⟩) 1 (tot1 / 4))).setCell ⟨ba, 0, none⟩ (.int .i64 0)).setCell ⟨be, 0, none⟩ (.int .i64 0) = W2 at *
  refine leaves_cons (f := 141) (args := #[.pointer (some ⟨bp, 0, none⟩), .pointer (some ⟨ba, 0, none⟩), .pointer (some ⟨be, 0, none⟩)]) (by simp) (by simp [go_sem]) ?_
  refine (catch_idle _ bp ba be).mono ?_
  rintro e u' W3 ⟨rfl, rfl, hB⟩
  have f1 := (hB.cell (p := ⟨bp, 0, none⟩) (by show bp < _; omega)).trans d1
  have f2 := (hB.cell (p := ⟨ba, 0, none⟩) (by show ba < _; omega)).trans d2
  have f3 := (hB.cell (p := ⟨be, 0, none⟩) (by show be < _; omega)).trans d3
  have HB : Hid (Below w.heap.size w W3) := B2.trans (hB.mono B2.size)
  have hP3 : Hid (PieceAt W3 b1 del1 tot1) := by
    obtain ⟨arr, fz, h, h2⟩ := hP1.ex
    exact ⟨⟨arr, fz, by rw [hB.block b1 (by omega), d4]; exact h, h2⟩, hP1.tot⟩
  have hge : Hid (w.heap.size ≤ b1) := by have := F'.out.h.size; exact Nat.le_trans this hge1
  have hres : (results Tryz.f78 #[.string s0, undef, .pointer (some ⟨bp, 0, none⟩), .pointer (some ⟨ba, 0, none⟩), .pointer (some ⟨be, 0, none⟩), .pointer (some ⟨g, 0, none⟩), .string s0, .int .i64 3, .bool false, .func (.func 141) #[] #[.pointer (some ⟨bp, 0, none⟩), .pointer (some ⟨ba, 0, none⟩), .pointer (some ⟨be, 0, none⟩)], .string s0, .agg #[.string s0, .int .i64 0, .slice none 0 0], .pointer (some ⟨g, 0, none⟩), .pointer (some ⟨g, 0, none⟩), .pointer (some ⟨g, 0, none⟩), .pointer (some ⟨g, 1, none⟩), .int .i64 3, .string s0, .int .i64 3, .bool false, .pointer (some ⟨g, 0, none⟩), .tuple #[], .pointer (some ⟨g, 0, none⟩), .pointer (some ⟨g, 0, none⟩), .pointer (some ⟨g, 2, none⟩), .slice (some ⟨b1, del1, none⟩) 1 (tot1 / 4)]).run Tryz.prog W3 = .ok (.tuple #[.slice (some ⟨b1, del1, none⟩) 1 (tot1 / 4), .int .i64 0, .int .i64 0]) W3 := by
    simp [results, Tryz.results78, go_sem, f1, f2, f3]
  exact ⟨_, hres, b1, del1, tot1, rfl, hge.out, hP3.out, HB.out⟩
end Go.EvProp

namespace Go.EvProp
open Go Go.Ev Go.Proofs Go.RowKit
set_option maxRecDepth 100000

/-- A new block, wherever it lies, and wherever in it. -/
theorem newAtP {ρ : Rho} {σ : Sig} {h : H} {w w' : World} (r : HRel ρ σ h w) (hb : Below w.heap.size w w') {g del tot : Nat} {o : Obj} {x : ABlk} (hg : w.heap.size ≤ g) (ho : w'.heap[g]? = some o) (hm : h.nx < maxT) (hO : ORel ρ (updS σ h.nx ⟨g, del, tot⟩) ⟨g, del, tot⟩ (some o) x) :
    HRel ρ (updS σ h.nx ⟨g, del, tot⟩) (h.add x) w' ∧ Goes σ h w (updS σ h.nx ⟨g, del, tot⟩) (h.add x) w' := by
  have hn := r.fresh h.nx (Nat.le_refl _)
  have he : Ext σ (updS σ h.nx ⟨g, del, tot⟩) := Ext.upd hn
  have gs := fun j => H.get_add h j x hm
  have at' : ∀ b p, b ≠ h.nx → (updS σ h.nx ⟨g, del, tot⟩) b = some p → σ b = some p := fun b p hne hs => by
    unfold updS at hs; rw [if_neg hne] at hs; exact hs
  have new : (updS σ h.nx ⟨g, del, tot⟩) h.nx = some ⟨g, del, tot⟩ := by unfold updS; rw [if_pos rfl]
  refine ⟨⟨fun b y hy => ?_, fun b b' y y' p p' hy hy' hp hp' hne => ?_, fun b hb' => ?_⟩, ⟨he, fun b h1 h2 => ?_, Nat.le_succ _, hb.size, fun k hk _ => hb.block k hk, fun k ho' => ?_, hb.os, hb.output, hb.tape⟩⟩
  · rw [gs] at hy
    by_cases e : b = h.nx
    · rw [if_pos e] at hy
      cases hy
      subst e
      exact ⟨_, new, by rw [ho]; exact hO⟩
    · rw [if_neg e] at hy
      obtain ⟨p, hp, hO'⟩ := r.blk b y hy
      exact ⟨p, he b p hp, by rw [hb.block p.blk (r.lt' hy hp)]; exact hO'.ext he⟩
  · rw [gs] at hy hy'
    by_cases e : b = h.nx
    · have e' : b' ≠ h.nx := fun q => hne (e.trans q.symm)
      rw [if_neg e'] at hy'
      have := r.lt' hy' (at' b' p' e' hp')
      subst e
      rw [new] at hp
      cases hp
      simp only
      omega
    · rw [if_neg e] at hy
      have h1 := r.lt' hy (at' b p e hp)
      by_cases e' : b' = h.nx
      · subst e'
        rw [new] at hp'
        cases hp'
        simp only
        omega
      · rw [if_neg e'] at hy'
        exact r.inj b b' y y' p p' hy hy' (at' b p e hp) (at' b' p' e' hp') hne
  · have hb'' : h.nx + 1 ≤ b := hb'
    unfold updS
    rw [if_neg (by omega)]
    exact r.fresh b (by omega)
  · by_cases e : b = h.nx
    · omega
    · unfold updS at h2
      rw [if_neg e] at h2
      exact (h2 h1).elim
  · obtain ⟨b, y, p, g1, g2, rfl⟩ := ho'
    rw [gs] at g1
    by_cases e : b = h.nx
    · subst e
      rw [new] at g2
      cases g2
      exact .inl hg
    · rw [if_neg e] at g1
      exact .inr ⟨b, y, p, g1, at' b p e g2, rfl⟩

theorem enterParse (cs : Array Value) (w : World) : (callFunc 78 cs).run Tryz.prog w = .ok (.enter 78 cs) w := enters Tryz.func78 (by decide) (by kernel_rfl)

theorem parseV_ok {ρ : Rho} : FnOk Tryz.prog ρ 78 parseV := by
  intro σ args h v h' cs w hg hargs hH hv
  refine .inr ⟨enterParse _ _, ?_⟩
  unfold parseV at hv
  split at hv
  · simp only [Option.some.injEq, Prod.mk.injEq] at hv
    obtain ⟨rfl, rfl⟩ := hv
    obtain ⟨c, hc, rfl⟩ := concL_one hargs
    rw [strOf _ (by decide)] at hc
    cases hc
    refine Ret.of ((parse_x w).mono ?_)
    rintro e w' ⟨rfl, hb⟩
    exact ⟨_, rfl, σ, rfl, hH.below hb, Goes.below hb⟩
  · cases hm : Nat.blt h.nx maxT with
    | false => rw [hm] at hv; cases hv
    | true =>
      rw [hm] at hv
      simp only [cond_true, Option.some.injEq, Prod.mk.injEq] at hv
      obtain ⟨rfl, rfl⟩ := hv
      have hm : h.nx < maxT := by simpa using hm
      obtain ⟨c, hc, rfl⟩ := concL_one hargs
      rw [strOf _ (by decide)] at hc
      cases hc
      refine Ret.of ((parse_l w).mono ?_)
      rintro e w' ⟨b, del, tot, rfl, hge, ⟨⟨arr, fz, q1, q2, q3, q4⟩, q5⟩, hb⟩
      have hO : ORel ρ (updS σ h.nx ⟨b, del, tot⟩) ⟨b, del, tot⟩ (some (.cells arr 239 fz)) (.cells 239 [.int .i64 (.ofNat 3), .int .i64 (.ofNat 1), .int .i64 (.ofNat 200), .str []] false true) :=
        ⟨arr, fz, rfl, q2, q5, fun h => by (cases h), ⟨_, rfl, fun i hi => q3 i hi⟩, fun _ => q4⟩
      obtain ⟨r1, r2⟩ := newAtP hH hb (del := del) (tot := tot) hge q1 hm hO
      refine ⟨_, rfl, _, ?_, r1, r2⟩
      have : (updS σ h.nx ⟨b, del, tot⟩) h.nx = some ⟨b, del, tot⟩ := by unfold updS; rw [if_pos rfl]
      simp [conc, concL, this, capN]
  · cases hv

theorem extP_ok {ρ : Rho} (f : FuncId) (F : List AV → H → Option (AV × H)) (h : extP f = some F) : FnOk Tryz.prog ρ f F := by
  unfold extP at h
  simp only [bif_beq] at h
  split at h
  · rename_i e; subst e; cases h; exact parseV_ok
  · exact ext0_ok f F h

theorem envP_ok {ρ : Rho} (hρ : ρ.loops = loopsOf Tryz.prog) (n : Nat) : EnvOk Tryz.prog ρ (envK Tryz.prog extP tabT.find n) :=
  envK_ok follows hρ (BT.find_ok tabT_ok) extP_ok n
end Go.EvProp
