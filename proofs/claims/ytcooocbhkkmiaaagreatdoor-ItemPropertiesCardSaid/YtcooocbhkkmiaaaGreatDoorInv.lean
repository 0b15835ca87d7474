/-
  What lies in the world while the law runs.
-/
import Derived.Test.YtcooocbhkkmiaaaGreatDoorEndC
set_option linter.all false
namespace Go.EvProp
open Go Go.Ev Go.Proofs Go.RowKit Go.Lib
set_option maxRecDepth 100000

theorem stays_set (w : World) (b i : Nat) (u : Value) : Stays b w (w.setCell ⟨b, i, none⟩ u) := by
  have hb0 := (Below.refl 0 w).setCell (p := ⟨b, i, none⟩) (Nat.zero_le _) u
  exact ⟨hb0.os, hb0.tape, hb0.output, by simp, fun k hk hne => Below.heap_setCell _ _ _ _ hne⟩
theorem Nums.stays {w w' : World} {x : Nat} {a : Option Addr} {n : Nat} (h : Nums w a n) (S : Stays x w w') (hx : ∀ q, a = some q → q.block ≠ x) : Nums w' a n := by
  rcases h with h | ⟨b, o, rfl, h⟩
  · exact .inl h
  · refine .inr ⟨b, o, rfl, fun i hi => ?_⟩
    obtain ⟨y, hy⟩ := h i hi
    have hlt : b < w.heap.size := World.block_lt_of_cell? w _ hy
    exact ⟨y, (World.cell?_of_block (S.block b hlt (hx _ rfl))).trans hy⟩
theorem Num.stays {w w' : World} {x b : Nat} {a : Option Addr} {n : Nat} (h : Num w b a n) (S : Stays x w w') (hb : b ≠ x) (hx : ∀ q, a = some q → q.block ≠ x) : Num w' b a n := by
  obtain ⟨c, K, h1, h2, h3⟩ := h
  exact ⟨c, K, S.cells hb h1, h2.stays S hx, h3⟩

/-- What lies in the world while the law runs. -/
structure Inv (w0 W : World) (nA nB bc bs br bg : Nat) (la : Option Addr) (na : Nat) (lb : Option Addr) (nb K : Nat) : Prop where
  tens : TensAt W
  pow : PowAt W
  A : Num W nA la na
  B : Num W nB lb nb
  c : W.heap[bc]? = some (.cells #[.string ⟨#[100]⟩, .int .i64 3] 28 (0, 0))
  s : W.heap[bs]? = some (.cells #[.string ⟨#[88]⟩, .int .i64 K, .int .i64 1] 31 (0, 0))
  r : W.heap[br]? = some (.cells #[.int .i64 0, .string ⟨#[99, 111, 108]⟩, .string ⟨#[100]⟩, .slice none 0 0] 34 (0, 0))
  g : W.heap[bg]? = some (.cells (gC bc bs br) 37 (0, 0))
  b : RowKit.Below w0.heap.size w0 W
  two : 2 ≤ w0.heap.size
  leA : w0.heap.size ≤ nA
  leB : w0.heap.size ≤ nB
  leS : w0.heap.size ≤ bs
  ne : nA ≠ nB
  ha : ∀ q, la = some q → q.block < w0.heap.size
  hb : ∀ q, lb = some q → q.block < w0.heap.size

section
variable {w0 W W' : World} {nA nB bc bs br bg : Nat} {la : Option Addr} {na : Nat} {lb : Option Addr} {nb K : Nat}

theorem Num.at {W : World} {b : Nat} {a : Option Addr} {n : Nat} (h : Num W b a n) : ∃ cs, W.heap[b]? = some (.cells cs 26 (0, 0)) := by
  obtain ⟨c, K, h1, _⟩ := h
  exact ⟨_, h1⟩

theorem Inv.below (h : Inv w0 W nA nB bc bs br bg la na lb nb K) (hb : RowKit.Below W.heap.size W W') : Inv w0 W' nA nB bc bs br bg la na lb nb K := by
  have old : ∀ {b : Nat} {o : Obj}, W.heap[b]? = some o → W'.heap[b]? = some o := fun {b o} e => (hb.block b (Array.getElem?_eq_some_iff.1 e).1).trans e
  exact ⟨h.tens.below hb, h.pow.below hb, h.A.below hb, h.B.below hb, old h.c, old h.s, old h.r, old h.g, h.b.trans (hb.mono h.b.size), h.two, h.leA, h.leB, h.leS, h.ne, h.ha, h.hb⟩

/-- A step that turns one block alone, which is none of the law's own. -/
theorem Inv.step (h : Inv w0 W nA nB bc bs br bg la na lb nb K) {x : Nat} {cs : Array Value} {t : TypeId} {f : Nat × Nat} (S : Stays x W W') (hx : w0.heap.size ≤ x) (hat : W.heap[x]? = some (.cells cs t f)) (t1 : t ≠ 28) (t2 : t ≠ 31) (t3 : t ≠ 34) (t4 : t ≠ 37) (hA : Num W' nA la na) (hB : Num W' nB lb nb) : Inv w0 W' nA nB bc bs br bg la na lb nb K := by
  have h2 := h.two
  have n1 := ne_type h.c hat (fun e => t1 e.symm)
  have n2 := ne_type h.s hat (fun e => t2 e.symm)
  have n3 := ne_type h.r hat (fun e => t3 e.symm)
  have n4 := ne_type h.g hat (fun e => t4 e.symm)
  obtain ⟨f0, e0⟩ := h.tens
  obtain ⟨f1, e1⟩ := h.pow
  exact ⟨⟨f0, (S.block 0 (Array.getElem?_eq_some_iff.1 e0).1 (by omega)).trans e0⟩, ⟨f1, (S.block 1 (Array.getElem?_eq_some_iff.1 e1).1 (by omega)).trans e1⟩, hA, hB, S.cells n1 h.c, S.cells n2 h.s, S.cells n3 h.r, S.cells n4 h.g, S.new h.b hx h.b.size, h.two, h.leA, h.leB, h.leS, h.ne, h.ha, h.hb⟩

theorem Inv.callA (h : Inv w0 W nA nB bc bs br bg la na lb nb K) (n : Num W' nA la na) (S : Stays nA W W') : Inv w0 W' nA nB bc bs br bg la na lb nb K := by
  obtain ⟨cs, hat⟩ := h.A.at
  have := h.leA
  exact h.step S h.leA hat (by decide) (by decide) (by decide) (by decide) n (h.B.stays S (fun e => h.ne e.symm) fun q hq => by have := h.hb q hq; omega)
theorem Inv.callB (h : Inv w0 W nA nB bc bs br bg la na lb nb K) (n : Num W' nB lb nb) (S : Stays nB W W') : Inv w0 W' nA nB bc bs br bg la na lb nb K := by
  obtain ⟨cs, hat⟩ := h.B.at
  have := h.leB
  exact h.step S h.leB hat (by decide) (by decide) (by decide) (by decide) (h.A.stays S h.ne fun q hq => by have := h.ha q hq; omega) n

/-- A step that turns another block. -/
theorem Inv.other (h : Inv w0 W nA nB bc bs br bg la na lb nb K) {x : Nat} {cs : Array Value} {t : TypeId} {f : Nat × Nat} (S : Stays x W W') (hx : w0.heap.size ≤ x) (hat : W.heap[x]? = some (.cells cs t f)) (t1 : t ≠ 28) (t2 : t ≠ 31) (t3 : t ≠ 34) (t4 : t ≠ 37) (t5 : t ≠ 26) : Inv w0 W' nA nB bc bs br bg la na lb nb K := by
  obtain ⟨ca, ha⟩ := h.A.at
  obtain ⟨cb, hb⟩ := h.B.at
  exact h.step S hx hat t1 t2 t3 t4 (h.A.stays S (ne_type ha hat fun e => t5 e.symm) fun q hq => by have := h.ha q hq; omega) (h.B.stays S (ne_type hb hat fun e => t5 e.symm) fun q hq => by have := h.hb q hq; omega)

/-- The symbol's kind is turned. -/
theorem Inv.kind (h : Inv w0 W nA nB bc bs br bg la na lb nb K) (K' : Nat) : Inv w0 (W.setCell ⟨bs, 1, none⟩ (.int .i64 K')) nA nB bc bs br bg la na lb nb K' := by
  have S := stays_set W bs 1 (.int .i64 K')
  have h2 := h.two
  have hS := h.leS
  have n1 := ne_type h.c h.s (by decide)
  have n3 := ne_type h.r h.s (by decide)
  have n4 := ne_type h.g h.s (by decide)
  obtain ⟨ca, ha⟩ := h.A.at
  obtain ⟨cb, hb⟩ := h.B.at
  have n5 := ne_type ha h.s (by decide)
  have n6 := ne_type hb h.s (by decide)
  obtain ⟨f0, e0⟩ := h.tens
  obtain ⟨f1, e1⟩ := h.pow
  exact ⟨⟨f0, (S.block 0 (Array.getElem?_eq_some_iff.1 e0).1 (by omega)).trans e0⟩, ⟨f1, (S.block 1 (Array.getElem?_eq_some_iff.1 e1).1 (by omega)).trans e1⟩, h.A.stays S n5 (fun q hq => by have := h.ha q hq; omega), h.B.stays S n6 (fun q hq => by have := h.hb q hq; omega), S.cells n1 h.c, Joins.block_setCell h.s _, S.cells n3 h.r, S.cells n4 h.g, S.new h.b hS h.b.size, h.two, h.leA, h.leB, h.leS, h.ne, h.ha, h.hb⟩
end

/-- Six new blocks. -/
structure Six (w W : World) (o1 o2 o3 o4 o5 o6 : Obj) : Prop where
  h1 : W.heap[w.heap.size]? = some o1
  h2 : W.heap[w.heap.size + 1]? = some o2
  h3 : W.heap[w.heap.size + 1 + 1]? = some o3
  h4 : W.heap[w.heap.size + 1 + 1 + 1]? = some o4
  h5 : W.heap[w.heap.size + 1 + 1 + 1 + 1]? = some o5
  h6 : W.heap[w.heap.size + 1 + 1 + 1 + 1 + 1]? = some o6
  b : RowKit.Below w.heap.size w W
theorem six (w : World) (o1 o2 o3 o4 o5 o6 : Obj) : Six w ((((((w.alloc o1).alloc o2).alloc o3).alloc o4).alloc o5).alloc o6) o1 o2 o3 o4 o5 o6 := by
  have s1 := sizeNew w o1
  have s2 := sizeNew (w.alloc o1) o2
  have s3 := sizeNew ((w.alloc o1).alloc o2) o3
  have s4 := sizeNew (((w.alloc o1).alloc o2).alloc o3) o4
  have s5 := sizeNew ((((w.alloc o1).alloc o2).alloc o3).alloc o4) o5
  refine ⟨?_, ?_, ?_, ?_, ?_, ?_, ?_⟩
  · rw [heapOld _ _ (by omega), heapOld _ _ (by omega), heapOld _ _ (by omega), heapOld _ _ (by omega), heapOld _ _ (by omega)]; exact heapNew _ _
  · rw [heapOld _ _ (by omega), heapOld _ _ (by omega), heapOld _ _ (by omega), heapOld _ _ (by omega), ← s1]; exact heapNew _ _
  · rw [heapOld _ _ (by omega), heapOld _ _ (by omega), heapOld _ _ (by omega), ← s1, ← s2]; exact heapNew _ _
  · rw [heapOld _ _ (by omega), heapOld _ _ (by omega), ← s1, ← s2, ← s3]; exact heapNew _ _
  · rw [heapOld _ _ (by omega), ← s1, ← s2, ← s3, ← s4]; exact heapNew _ _
  · rw [← s1, ← s2, ← s3, ← s4, ← s5]; exact heapNew _ _
  · exact ((((((Below.refl _ _).alloc (Nat.le_refl _) _).alloc (by omega) _).alloc (by omega) _).alloc (by omega) _).alloc (by omega) _).alloc (by omega) _

/-- Seven stores into a block of seven cells. -/
abbrev set7 (w : World) (b : Nat) (u0 u1 u2 u3 u4 u5 u6 : Value) : World := ((((((w.setCell ⟨b, 0, none⟩ u0).setCell ⟨b, 1, none⟩ u1).setCell ⟨b, 2, none⟩ u2).setCell ⟨b, 3, none⟩ u3).setCell ⟨b, 4, none⟩ u4).setCell ⟨b, 5, none⟩ u5).setCell ⟨b, 6, none⟩ u6
theorem set7_stays (w : World) (b : Nat) (u0 u1 u2 u3 u4 u5 u6 : Value) : Stays b w (set7 w b u0 u1 u2 u3 u4 u5 u6) :=
  ((((((stays_set w b 0 u0).trans (stays_set _ b 1 u1)).trans (stays_set _ b 2 u2)).trans (stays_set _ b 3 u3)).trans (stays_set _ b 4 u4)).trans (stays_set _ b 5 u5)).trans (stays_set _ b 6 u6)
theorem set7_block {w : World} {b : Nat} {a0 a1 a2 a3 a4 a5 a6 : Value} {t : TypeId} (h : w.heap[b]? = some (.cells #[a0, a1, a2, a3, a4, a5, a6] t (0, 0))) (u0 u1 u2 u3 u4 u5 u6 : Value) : (set7 w b u0 u1 u2 u3 u4 u5 u6).heap[b]? = some (.cells #[u0, u1, u2, u3, u4, u5, u6] t (0, 0)) := by
  unfold set7
  have h0 : (w.setCell ⟨b, 0, none⟩ u0).heap[b]? = some (.cells #[u0, a1, a2, a3, a4, a5, a6] t (0, 0)) := Joins.block_setCell h u0
  generalize w.setCell ⟨b, 0, none⟩ u0 = w0 at h0 ⊢
  have h1 : (w0.setCell ⟨b, 1, none⟩ u1).heap[b]? = some (.cells #[u0, u1, a2, a3, a4, a5, a6] t (0, 0)) := Joins.block_setCell h0 u1
  generalize w0.setCell ⟨b, 1, none⟩ u1 = w1 at h1 ⊢
  have h2 : (w1.setCell ⟨b, 2, none⟩ u2).heap[b]? = some (.cells #[u0, u1, u2, a3, a4, a5, a6] t (0, 0)) := Joins.block_setCell h1 u2
  generalize w1.setCell ⟨b, 2, none⟩ u2 = w2 at h2 ⊢
  have h3 : (w2.setCell ⟨b, 3, none⟩ u3).heap[b]? = some (.cells #[u0, u1, u2, u3, a4, a5, a6] t (0, 0)) := Joins.block_setCell h2 u3
  generalize w2.setCell ⟨b, 3, none⟩ u3 = w3 at h3 ⊢
  have h4 : (w3.setCell ⟨b, 4, none⟩ u4).heap[b]? = some (.cells #[u0, u1, u2, u3, u4, a5, a6] t (0, 0)) := Joins.block_setCell h3 u4
  generalize w3.setCell ⟨b, 4, none⟩ u4 = w4 at h4 ⊢
  have h5 : (w4.setCell ⟨b, 5, none⟩ u5).heap[b]? = some (.cells #[u0, u1, u2, u3, u4, u5, a6] t (0, 0)) := Joins.block_setCell h4 u5
  generalize w4.setCell ⟨b, 5, none⟩ u5 = w5 at h5 ⊢
  exact Joins.block_setCell h5 u6
end Go.EvProp
