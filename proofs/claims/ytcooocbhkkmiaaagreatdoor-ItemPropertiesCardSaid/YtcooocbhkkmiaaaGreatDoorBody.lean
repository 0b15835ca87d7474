/-
  ItemProperties returns true for all lists of numbers and every kind, and leaves all that was there.
-/
import Derived.Test.YtcooocbhkkmiaaaGreatDoorInv
import Derived.Deep.Cut
set_option linter.all false
namespace Go.EvProp
open Go Go.Ev Go.Proofs Go.RowKit Go.Lib
set_option maxRecDepth 100000

/-- A date, as a value. -/
def RetDateC (e : Ending) : Prop := ∃ N : Int, e = .returned (.agg (dateC N)) ∧ 0 ≤ N ∧ N ≤ 3652058
def RetNumC (e : Ending) : Prop := ∃ (N : Int) (S : Nat), e = .returned (.agg (numC N S)) ∧ RightD N S ∧ S ≤ 3

section
variable {w0 W : World} {nA nB bc bs br bg : Nat} {la : Option Addr} {na : Nat} {lb : Option Addr} {nb K : Nat}
theorem Inv.alloc2 (h : Inv w0 W nA nB bc bs br bg la na lb nb K) (o o' : Obj) : Inv w0 ((W.alloc o).alloc o') nA nB bc bs br bg la na lb nb K := h.below (((Below.refl _ _).alloc (Nat.le_refl _) o).alloc (by simp) o')
theorem Inv.alloc (h : Inv w0 W nA nB bc bs br bg la na lb nb K) (o : Obj) : Inv w0 (W.alloc o) nA nB bc bs br bg la na lb nb K := h.below ((Below.refl _ _).alloc (Nat.le_refl _) o)
theorem dateA_any (h : Inv w0 W nA nB bc bs br bg la na lb nb K) (hm : na ≤ maxLen) : Calls Tryz.prog 5 #[.pointer (some ⟨nA, 0, none⟩), .int .i64 3] W fun e w' => RetDateC e ∧ Inv w0 w' nA nB bc bs br bg la na lb nb K ∧ Stays nA W w' :=
  (value_date W nA la na hm h.A).mono fun e w' ⟨⟨N, h1, h2, h3⟩, n, s⟩ => ⟨⟨N, h1, h2, h3⟩, h.callA n s, s⟩
theorem dateB_any (h : Inv w0 W nA nB bc bs br bg la na lb nb K) (hm : nb ≤ maxLen) : Calls Tryz.prog 5 #[.pointer (some ⟨nB, 0, none⟩), .int .i64 3] W fun e w' => RetDateC e ∧ Inv w0 w' nA nB bc bs br bg la na lb nb K ∧ Stays nB W w' :=
  (value_date W nB lb nb hm h.B).mono fun e w' ⟨⟨N, h1, h2, h3⟩, n, s⟩ => ⟨⟨N, h1, h2, h3⟩, h.callB n s, s⟩
theorem numA_any (h : Inv w0 W nA nB bc bs br bg la na lb nb K) (hm : na ≤ maxLen) : Calls Tryz.prog 5 #[.pointer (some ⟨nA, 0, none⟩), .int .i64 2] W fun e w' => RetNumC e ∧ Inv w0 w' nA nB bc bs br bg la na lb nb K ∧ Stays nA W w' :=
  (value_num W nA la na hm h.A).mono fun e w' ⟨⟨N, S, h1, h2, h3⟩, n, s⟩ => ⟨⟨N, S, h1, h2, h3⟩, h.callA n s, s⟩
theorem numB_any (h : Inv w0 W nA nB bc bs br bg la na lb nb K) (hm : nb ≤ maxLen) : Calls Tryz.prog 5 #[.pointer (some ⟨nB, 0, none⟩), .int .i64 2] W fun e w' => RetNumC e ∧ Inv w0 w' nA nB bc bs br bg la na lb nb K ∧ Stays nB W w' :=
  (value_num W nB lb nb hm h.B).mono fun e w' ⟨⟨N, S, h1, h2, h3⟩, n, s⟩ => ⟨⟨N, S, h1, h2, h3⟩, h.callB n s, s⟩
end

/-- The three blocks of values, beside what the law's world holds. -/
structure Vals (W : World) (bi bt bv : Nat) (M V : Int) : Prop where
  i : W.heap[bi]? = some (.cells (dateC M) 43 (0, 0))
  t : W.heap[bt]? = some (.cells (iC bi nbfB ⟨#[100]⟩) 47 (0, 0))
  v : W.heap[bv]? = some (.cells (dateC V) 43 (0, 0))
  ne : bi ≠ bv
  m0 : 0 ≤ M
  m1 : M ≤ 3652058
  v0 : 0 ≤ V
  v1 : V ≤ 3652058

theorem begins_tx {neg : Bool} {n S : Nat} {s : ByteArray} (h : s.data.toList = txD neg n S) : ∃ hz : 0 < s.size, begins (s[0]'hz) := by
  have h1 : ∃ c l, txD neg n S = c :: l ∧ begins c := by
    unfold txD
    cases neg with
    | true => exact ⟨45, _, rfl, .inl rfl⟩
    | false =>
      cases hd : decDigits (n / 10 ^ S) with
      | nil => have := decDigits_length (n / 10 ^ S); rw [hd] at this; have := nDigits_pos (n / 10 ^ S); simp at *; omega
      | cons c l => exact ⟨c, _, rfl, .inr (dec_digs (n / 10 ^ S) c (by rw [hd]; simp))⟩
  obtain ⟨c, l, e, hc⟩ := h1
  rw [e] at h
  have hz : 0 < s.size := by
    have : s.data.toList.length = l.length + 1 := by rw [h]; rfl
    rw [Array.length_toList] at this
    show 0 < s.data.size
    omega
  refine ⟨hz, ?_⟩
  have e0 : s[0]'hz = c := by
    show s.data[0]'hz = c
    rw [← Array.getElem_toList]
    simp [h]
  rw [e0]
  exact hc
theorem want_le (x : Int) : (!decide (x < 0)) = decide (0 ≤ x) := by
  by_cases h : x < 0
  · simp [h]
  · simp [h]; omega
theorem cmp_swap (a b x y : Int) : orI (cmpI b a) (cmpI y x) = -(orI (cmpI a b) (cmpI x y)) := by
  unfold orI cmpI
  repeat' split
  all_goals omega
theorem want_ge (a b x y : Int) : (!decide (orI (cmpI b a) (cmpI y x) < 0)) = decide (orI (cmpI a b) (cmpI x y) ≤ 0) := by
  rw [cmp_swap, want_le]
  by_cases h : orI (cmpI a b) (cmpI x y) ≤ 0
  · simp [h]
  · simp [h]

theorem Vals.other {W W' : World} {bi bt bv x : Nat} {M V : Int} {cs : Array Value} {t : TypeId} {f : Nat × Nat} (h : Vals W bi bt bv M V) (S : Stays x W W') (hat : W.heap[x]? = some (.cells cs t f)) (t1 : t ≠ 43) (t2 : t ≠ 47) : Vals W' bi bt bv M V :=
  ⟨S.cells (ne_type h.i hat fun e => t1 e.symm) h.i, S.cells (ne_type h.t hat fun e => t2 e.symm) h.t, S.cells (ne_type h.v hat fun e => t1 e.symm) h.v, h.ne, h.m0, h.m1, h.v0, h.v1⟩

/-- The same with a number as the value. -/
structure ValsN (W : World) (bi bt bv : Nat) (M : Int) (prop param : ByteArray) (N : Int) (S : Nat) : Prop where
  i : W.heap[bi]? = some (.cells (dateC M) 43 (0, 0))
  t : W.heap[bt]? = some (.cells (iC bi prop param) 47 (0, 0))
  v : W.heap[bv]? = some (.cells (numC N S) 43 (0, 0))
  ne : bi ≠ bv
  m0 : 0 ≤ M
  m1 : M ≤ 3652058
theorem Vals.num {W : World} {bi bt bv : Nat} {M V : Int} (h : Vals W bi bt bv M V) (N : Int) (S : Nat) : ValsN (set7 W bv (.int .i64 2) (.string ⟨#[]⟩) (.int .i64 N) (.int .i64 S) (.int .i64 0) (.slice none 0 0) (.slice none 0 0)) bi bt bv M nbfB ⟨#[100]⟩ N S :=
  ⟨(set7_stays W bv _ _ _ _ _ _ _).cells h.ne h.i, (set7_stays W bv _ _ _ _ _ _ _).cells (ne_type h.t h.v (by decide)) h.t, set7_block h.v _ _ _ _ _ _ _, h.ne, h.m0, h.m1⟩
theorem ValsN.other {W W' : World} {bi bt bv x : Nat} {M N : Int} {S : Nat} {prop param : ByteArray} {cs : Array Value} {t : TypeId} {f : Nat × Nat} (h : ValsN W bi bt bv M prop param N S) (St : Stays x W W') (hat : W.heap[x]? = some (.cells cs t f)) (t1 : t ≠ 43) (t2 : t ≠ 47) : ValsN W' bi bt bv M prop param N S :=
  ⟨St.cells (ne_type h.i hat fun e => t1 e.symm) h.i, St.cells (ne_type h.t hat fun e => t2 e.symm) h.t, St.cells (ne_type h.v hat fun e => t1 e.symm) h.v, h.ne, h.m0, h.m1⟩
theorem ValsN.below {W W' : World} {bi bt bv : Nat} {M N : Int} {S : Nat} {prop param : ByteArray} (h : ValsN W bi bt bv M prop param N S) (hb : RowKit.Below W.heap.size W W') : ValsN W' bi bt bv M prop param N S := by
  have old : ∀ {b : Nat} {o : Obj}, W.heap[b]? = some o → W'.heap[b]? = some o := fun {b o} e => (hb.block b (Array.getElem?_eq_some_iff.1 e).1).trans e
  exact ⟨old h.i, old h.t, old h.v, h.ne, h.m0, h.m1⟩
theorem ValsN.prop {W : World} {bi bt bv : Nat} {M N : Int} {S : Nat} {prop param : ByteArray} (h : ValsN W bi bt bv M prop param N S) (p : ByteArray) : ValsN (W.setCell ⟨bt, 13, none⟩ (.string p)) bi bt bv M p param N S :=
  ⟨(stays_set W bt 13 _).cells (ne_type h.i h.t (by decide)) h.i, Joins.block_setCell h.t _, (stays_set W bt 13 _).cells (ne_type h.v h.t (by decide)) h.v, h.ne, h.m0, h.m1⟩
theorem ValsN.param {W : World} {bi bt bv : Nat} {M N : Int} {S : Nat} {prop param : ByteArray} (h : ValsN W bi bt bv M prop param N S) (p : ByteArray) : ValsN (W.setCell ⟨bt, 14, none⟩ (.string p)) bi bt bv M prop p N S :=
  ⟨(stays_set W bt 14 _).cells (ne_type h.i h.t (by decide)) h.i, Joins.block_setCell h.t _, (stays_set W bt 14 _).cells (ne_type h.v h.t (by decide)) h.v, h.ne, h.m0, h.m1⟩

theorem tx_drop {t : ByteArray} {c : UInt8} {l : List UInt8} (h : t.data.toList = c :: l) : (t.extract 1 t.size).data.toList = l := by
  have hs : t.size = l.length + 1 := by
    have : t.data.toList.length = l.length + 1 := by rw [h]; rfl
    rw [Array.length_toList] at this
    exact this
  rw [ByteArray.data_extract, Array.toList_extract, h, hs]
  simp [List.extract]

set_option maxHeartbeats 4000000 in
theorem props_any (w : World) (hT : TensAt w) (hP : PowAt w) (la lb : Option Addr) (na ca nb cb : Nat) (k : Nat) (hk : k < 256) (ha : Nums w la na) (haz : ∀ q, la = some q → q.block < w.heap.size) (ham : na ≤ maxLen) (hb : Nums w lb nb) (hbz : ∀ q, lb = some q → q.block < w.heap.size) (hbm : nb ≤ maxLen) :
    Calls Tryz.prog 3 #[.slice la na ca, .slice lb nb cb, .int .u8 k] w fun e w' => RetTrue e ∧ RowKit.Below w.heap.size w w' := by
  have C1 := Lib.hid fun w hT hP => sanity_any w hT hP
  have HT := Lib.hid hT
  have HP := Lib.hid hP
  have HA := Lib.hid ha
  have HB := Lib.hid hb
  have HAZ := Lib.hid haz
  have HBZ := Lib.hid hbz
  have h2 : 2 ≤ w.heap.size := by
    obtain ⟨fz, h⟩ := hP
    have := (Array.getElem?_eq_some_iff.1 h).1
    omega
  have H2 := Lib.hid h2
  have HAM := Lib.hid ham
  have HBM := Lib.hid hbm
  clear hT hP ha hb haz hbz h2 ham hbm
  go_enter Tryz.func3, Tryz.ntmps3
  go_upto_region 4 with (first
    | (go_at_call 4; (with_reducible refine (C1.out _ HT.out HP.out).mono ?_); rintro e w1 ⟨rfl, hb1⟩))
  have S6 := six w1 (.cells #[.slice la na ca, .int .i64 0] 26 (0, 0)) (.cells #[.slice lb nb cb, .int .i64 0] 26 (0, 0)) (.cells #[.string ⟨#[100]⟩, .int .i64 3] 28 (0, 0)) (.cells #[.string ⟨#[88]⟩, .int .i64 3, .int .i64 1] 31 (0, 0)) (.cells #[.int .i64 0, .string ⟨#[99, 111, 108]⟩, .string ⟨#[100]⟩, .slice none 0 0] 34 (0, 0)) (.cells (gC (w1.heap.size + 1 + 1) (w1.heap.size + 1 + 1 + 1) (w1.heap.size + 1 + 1 + 1 + 1)) 37 (0, 0))
  have I3 := Lib.hid (Inv.mk (w0 := w) (nA := w1.heap.size) (nB := w1.heap.size + 1) (la := la) (na := na) (lb := lb) (nb := nb) (K := 3) ((HT.out.below hb1).below S6.b) ((HP.out.below hb1).below S6.b)
    ⟨ca, 0, S6.h1, (HA.out.below hb1).below S6.b, fun q hq => by have := HAZ.out q hq; have := hb1.size; omega⟩ ⟨cb, 0, S6.h2, (HB.out.below hb1).below S6.b, fun q hq => by have := HBZ.out q hq; have := hb1.size; omega⟩
    S6.h3 S6.h4 S6.h5 S6.h6 (hb1.trans (S6.b.mono hb1.size)) H2.out hb1.size (by have := hb1.size; omega) (by have := hb1.size; omega) (by omega) HAZ.out HBZ.out)
  clear S6 hb1 HT HP HA HB HAZ HBZ H2 C1
  generalize ((((((w1.alloc (.cells #[.slice la na ca, .int .i64 0] 26 (0, 0))).alloc (.cells #[.slice lb nb cb, .int .i64 0] 26 (0, 0))).alloc (.cells #[.string ⟨#[100]⟩, .int .i64 3] 28 (0, 0))).alloc (.cells #[.string ⟨#[88]⟩, .int .i64 3, .int .i64 1] 31 (0, 0))).alloc (.cells #[.int .i64 0, .string ⟨#[99, 111, 108]⟩, .string ⟨#[100]⟩, .slice none 0 0] 34 (0, 0))).alloc (.cells (gC (w1.heap.size + 1 + 1) (w1.heap.size + 1 + 1 + 1) (w1.heap.size + 1 + 1 + 1 + 1)) 37 (0, 0))) = w3 at I3 ⊢
  generalize w1.heap.size + 1 + 1 + 1 + 1 + 1 = bg at I3 ⊢
  generalize w1.heap.size + 1 + 1 + 1 + 1 = br at I3 ⊢
  generalize w1.heap.size + 1 + 1 + 1 = bs at I3 ⊢
  generalize w1.heap.size + 1 + 1 = bc at I3 ⊢
  generalize w1.heap.size + 1 = nB at I3 ⊢
  generalize w1.heap.size = nA at I3 ⊢
  clear w1
  have CA : Hid (∀ W, Inv w W nA nB bc bs br bg la na lb nb 3 → Calls Tryz.prog 5 #[.pointer (some ⟨nA, 0, none⟩), .int .i64 3] W fun e w' => RetDateC e ∧ Inv w w' nA nB bc bs br bg la na lb nb 3 ∧ Stays nA W w') := fun W h => dateA_any h HAM.out
  have CB : Hid (∀ W, Inv w W nA nB bc bs br bg la na lb nb 3 → Calls Tryz.prog 5 #[.pointer (some ⟨nB, 0, none⟩), .int .i64 3] W fun e w' => RetDateC e ∧ Inv w w' nA nB bc bs br bg la na lb nb 3 ∧ Stays nB W w') := fun W h => dateB_any h HBM.out
  go_upto_region 6 with (first
    | (go_at_call 5; (with_reducible refine (CB.out _ I3.out).mono ?_); rintro e w4 ⟨⟨M, rfl, hM0, hM1⟩, i4, s4⟩; have I4 := Lib.hid i4; clear i4 s4)
    | (go_at_call 5; (with_reducible refine (CA.out _ (I4.out.alloc2 _ _)).mono ?_); rintro e w5 ⟨⟨V, rfl, hV0, hV1⟩, i5, s5⟩; have I5 := Lib.hid i5; have S5 := Lib.hid s5; clear i5 s5))
  have T4 := two w4 (.cells (dateC M) 43 (0, 0)) (.cells (iC w4.heap.size nbfB ⟨#[100]⟩) 47 (0, 0))
  have q5 : w4.heap.size + 2 ≤ w5.heap.size := by have := S5.out.size; simp only [World.alloc, Array.size_push] at this; omega
  have V6 := Lib.hid (Vals.mk (W := w5.alloc (.cells (dateC V) 43 (0, 0))) (bi := w4.heap.size) (bt := w4.heap.size + 1) (bv := w5.heap.size) (M := M) (V := V)
    ((heapOld _ _ (by omega)).trans (S5.out.cells (by have := I4.out.A.lt; omega) T4.p)) ((heapOld _ _ (by omega)).trans (S5.out.cells (by have := I4.out.A.lt; omega) T4.q)) (heapNew _ _) (by omega) hM0 hM1 hV0 hV1)
  have leT : Hid (w.heap.size ≤ w4.heap.size + 1 ∧ w.heap.size ≤ w5.heap.size) := Lib.hid (by have := I4.out.b.size; omega)
  have I6 := Lib.hid (I5.out.alloc (.cells (dateC V) 43 (0, 0)))
  clear T4 q5 S5 I4 I5 hM0 hM1 hV0 hV1 CA CB I3 w3
  generalize w5.alloc (.cells (dateC V) 43 (0, 0)) = w6 at V6 I6 ⊢
  generalize w5.heap.size = bv at V6 leT ⊢
  generalize w4.heap.size + 1 = bt at V6 leT ⊢
  generalize w4.heap.size = bi at V6 ⊢
  clear w4 w5
  have c1 := cellOf (i := 4) V6.out.v rfl
  have c2 := cellOf (i := 5) V6.out.t rfl
  have c3 := cellOf (i := 4) V6.out.i rfl
  go_region_held3 (fun W => W.cell? ⟨bv, 4, none⟩ = some (.int .i64 V) ∧ W.cell? ⟨bt, 5, none⟩ = some (.slice (some ⟨bi, 0, none⟩) 1 1) ∧ W.cell? ⟨bi, 4, none⟩ = some (.int .i64 M)) (first | exact ⟨c1, c2, c3⟩ | go_keep) (fail)
  clear c1 c2 c3
  go_upto_region 7 with (fail)
  rename_i Q' hh K1 a1 K2 a2
  have aR : ∀ a w, rest3.wp Tryz.prog Q' a w → K1 a w := by
    intro a w h
    exact a1 a w h
  clear a1 hh
  have I7 := Lib.hid (I6.out.below (W' := w6.drew) (Below.refl _ _).drew)
  have V7 := Lib.hid (show Vals w6.drew bi bt bv M V from ⟨V6.out.i, V6.out.t, V6.out.v, V6.out.ne, V6.out.m0, V6.out.m1, V6.out.v0, V6.out.v1⟩)
  clear I6 V6
  generalize w6.drew = w7 at I7 V7 ⊢
  clear w6
  have HR := Lib.hid aR
  clear aR
  have hmod : (k : Int).tmod 3 = ((k % 3 : Nat) : Int) := rfl
  have h3 : k % 3 = 0 ∨ k % 3 = 1 ∨ k % 3 = 2 := by omega
  rcases h3 with h3 | h3 | h3
  · have hm : (k : Int).tmod 3 = 0 := by rw [hmod, h3]; rfl
    go_wp2
    refine HR.out _ _ ?_
    exact end_date hk h3 ⟨rfl, rfl, rfl, rfl, rfl, rfl, rfl, rfl, rfl⟩ ⟨I7.out.tens, I7.out.pow, I7.out.c, I7.out.s, I7.out.r, V7.out.i, I7.out.g, V7.out.t, V7.out.v, V7.out.ne⟩ V7.out.m0 V7.out.m1 V7.out.v0 V7.out.v1 (fun w' hw' => ⟨rfl, I7.out.b.trans (hw'.mono I7.out.b.size)⟩)
  · have hm : (k : Int).tmod 3 = 1 := by rw [hmod, h3]; rfl
    have I8 : Hid (Inv w (w7.setCell ⟨bs, 1, none⟩ (.int .i64 2)) nA nB bc bs br bg la na lb nb 2) := Lib.hid (I7.out.kind 2)
    have V8 := Lib.hid (V7.out.other (stays_set w7 bs 1 (.int .i64 2)) I7.out.s (by decide) (by decide))
    have c0 := cellOf (i := 3) I7.out.g rfl
    have c1 := cellOf (i := 1) I7.out.s rfl
    have z1 := frozenOf (i := 1) I7.out.s
    go_upto_region 9 with (fail)
    clear c0 c1 z1 V7 I7
    generalize w7.setCell ⟨bs, 1, none⟩ (.int .i64 2) = w8 at I8 V8 ⊢
    clear w7
    have CA : Hid (∀ W, Inv w W nA nB bc bs br bg la na lb nb 2 → Calls Tryz.prog 5 #[.pointer (some ⟨nA, 0, none⟩), .int .i64 2] W fun e w' => RetNumC e ∧ Inv w w' nA nB bc bs br bg la na lb nb 2 ∧ Stays nA W w') := fun W h => numA_any h HAM.out
    have CB : Hid (∀ W, Inv w W nA nB bc bs br bg la na lb nb 2 → Calls Tryz.prog 5 #[.pointer (some ⟨nB, 0, none⟩), .int .i64 2] W fun e w' => RetNumC e ∧ Inv w w' nA nB bc bs br bg la na lb nb 2 ∧ Stays nB W w') := fun W h => numB_any h HBM.out
    go_upto_region 10 with (go_at_call 5; (with_reducible refine (CA.out _ I8.out).mono ?_); rintro e w9 ⟨⟨N4, S4, rfl, hN4, hS4⟩, i9, s9⟩; have I9 := Lib.hid i9; obtain ⟨csA, hatA⟩ := I8.out.A.at; have V9 := Lib.hid (V8.out.other s9 hatA (by decide) (by decide)); clear i9 s9 hatA; have q0 := cellOf (i := 0) V9.out.v rfl; have q1 := cellOf (i := 1) V9.out.v rfl; have q2 := cellOf (i := 2) V9.out.v rfl; have q3 := cellOf (i := 3) V9.out.v rfl; have q4 := cellOf (i := 4) V9.out.v rfl; have q5 := cellOf (i := 5) V9.out.v rfl; have q6 := cellOf (i := 6) V9.out.v rfl; have z0 := frozenOf (i := 0) V9.out.v; have z1 := frozenOf (i := 1) V9.out.v; have z2 := frozenOf (i := 2) V9.out.v; have z3 := frozenOf (i := 3) V9.out.v; have z4 := frozenOf (i := 4) V9.out.v; have z5 := frozenOf (i := 5) V9.out.v; have z6 := frozenOf (i := 6) V9.out.v)
    have V10 := Lib.hid (V9.out.num N4 S4)
    have I10 := Lib.hid (I9.out.other (set7_stays w9 bv (.int .i64 2) (.string ⟨#[]⟩) (.int .i64 N4) (.int .i64 S4) (.int .i64 0) (.slice none 0 0) (.slice none 0 0)) leT.out.2 V9.out.v (by decide) (by decide) (by decide) (by decide) (by decide))
    unfold set7 at V10 I10
    clear q0 q1 q2 q3 q4 q5 q6 z0 z1 z2 z3 z4 z5 z6 V8 V9 I8 I9
    generalize ((((((w9.setCell ⟨bv, 0, none⟩ (.int .i64 2)).setCell ⟨bv, 1, none⟩ (.string ⟨#[]⟩)).setCell ⟨bv, 2, none⟩ (.int .i64 N4)).setCell ⟨bv, 3, none⟩ (.int .i64 S4)).setCell ⟨bv, 4, none⟩ (.int .i64 0)).setCell ⟨bv, 5, none⟩ (.slice none 0 0)).setCell ⟨bv, 6, none⟩ (.slice none 0 0) = w10 at I10 V10 ⊢
    go_upto_region 11 with (go_at_call 5; (with_reducible refine (CB.out _ I10.out).mono ?_); rintro e w11 ⟨⟨N2, S2, rfl, hN2, hS2⟩, i11, s11⟩; have I11 := Lib.hid i11; obtain ⟨csB, hatB⟩ := I10.out.B.at; have V11 := Lib.hid (V10.out.other s11 hatB (by decide) (by decide)); clear i11 s11 hatB)
    have I12 := Lib.hid (I11.out.alloc (.cells (numC N2 S2) 43 (0, 0)))
    have V12 := Lib.hid (V11.out.below (W' := w11.alloc (.cells (numC N2 S2) 43 (0, 0))) ((Below.refl _ _).alloc (Nat.le_refl _) _))
    have W12 := Lib.hid (heapNew w11 (.cells (numC N2 S2) 43 (0, 0)))
    have nw : Hid (bv ≠ w11.heap.size) := Lib.hid (by have := (Array.getElem?_eq_some_iff.1 V11.out.v).1; omega)
    clear CA CB I10 I11 V10 V11
    generalize w11.alloc (.cells (numC N2 S2) 43 (0, 0)) = w12 at I12 V12 W12 ⊢
    generalize w11.heap.size = bw at W12 nw ⊢
    clear w11 w10
    have e0 := cellOf (i := 0) W12.out rfl
    have e1 := cellOf (i := 1) W12.out rfl
    have e2 := cellOf (i := 2) W12.out rfl
    have e3 := cellOf (i := 3) W12.out rfl
    have e4 := cellOf (i := 4) W12.out rfl
    have e5 := cellOf (i := 5) W12.out rfl
    have e6 := cellOf (i := 6) W12.out rfl
    have p13 := cellOf (i := 13) V12.out.t rfl
    have p14 := cellOf (i := 14) V12.out.t rfl
    have z13 := frozenOf (i := 13) V12.out.t
    have z14 := frozenOf (i := 14) V12.out.t
    have n1 := ne_type W12.out V12.out.t (by decide)
    have n2 := ne_type V12.out.t W12.out (by decide)
    have C6 : Hid (∀ W, Calls Tryz.prog 6 #[.agg (numC N2 S2)] W fun e w' => RetTx (35 :: txD (decide (N2 < 0)) N2.natAbs S2) e ∧ RowKit.Below W.heap.size W w') := fun W => text6_num N2 S2 W hN2 hS2
    go_region_held3 (fun W => W.cell? ⟨bw, 0, none⟩ = some (.int .i64 2) ∧ W.cell? ⟨bw, 1, none⟩ = some (.string ⟨#[]⟩) ∧ W.cell? ⟨bw, 2, none⟩ = some (.int .i64 N2) ∧ W.cell? ⟨bw, 3, none⟩ = some (.int .i64 S2) ∧ W.cell? ⟨bw, 4, none⟩ = some (.int .i64 0) ∧ W.cell? ⟨bw, 5, none⟩ = some (.slice none 0 0) ∧ W.cell? ⟨bw, 6, none⟩ = some (.slice none 0 0)) (first | exact ⟨e0, e1, e2, e3, e4, e5, e6⟩ | exact ⟨f0, f1, f2, f3, f4, f5, f6⟩ | go_keep) (first | (go_at_call 6; (with_reducible refine (C6.out _).mono ?_); rintro e w13 ⟨⟨t2, rfl, ht2⟩, hb13⟩; have V13 := Lib.hid ((V12.out.below (W' := w12.drew) (Below.refl _ _).drew).below hb13); have I13 := Lib.hid ((I12.out.below (W' := w12.drew) (Below.refl _ _).drew).below hb13); have W13 := Lib.hid ((hb13.block bw (Array.getElem?_eq_some_iff.1 W12.out).1).trans W12.out); have f0 := cellOf (i := 0) W13.out rfl; have f1 := cellOf (i := 1) W13.out rfl; have f2 := cellOf (i := 2) W13.out rfl; have f3 := cellOf (i := 3) W13.out rfl; have f4 := cellOf (i := 4) W13.out rfl; have f5 := cellOf (i := 5) W13.out rfl; have f6 := cellOf (i := 6) W13.out rfl; have r13 := cellOf (i := 13) V13.out.t rfl; have r14 := cellOf (i := 14) V13.out.t rfl; have y13 := frozenOf (i := 13) V13.out.t; have y14 := frozenOf (i := 14) V13.out.t; have hz2 : (1 : Int) ≤ (t2.size : Int) := (by have : t2.data.toList.length = (35 :: txD (decide (N2 < 0)) N2.natAbs S2).length := (by rw [ht2]); rw [Array.length_toList, List.length_cons] at this; have e : t2.size = t2.data.size := rfl; omega); have hz3 : (0 : Int) ≤ (t2.size : Int) := (by omega)))
    have hsd := tx_drop ht2
    generalize t2.extract 1 t2.size = s at hsd ⊢
    have V14 : Hid (ValsN ((w13.setCell ⟨bt, 13, none⟩ (.string ⟨#[97, 116, 108, 101, 97, 115, 116]⟩)).setCell ⟨bt, 14, none⟩ (.string s)) bi bt bv M atlB s N4 S4) := Lib.hid ((V13.out.prop atlB).param s)
    have I14 : Hid (Inv w ((w13.setCell ⟨bt, 13, none⟩ (.string ⟨#[97, 116, 108, 101, 97, 115, 116]⟩)).setCell ⟨bt, 14, none⟩ (.string s)) nA nB bc bs br bg la na lb nb 2) := Lib.hid (I13.out.other ((stays_set w13 bt 13 _).trans (stays_set _ bt 14 _)) leT.out.1 V13.out.t (by decide) (by decide) (by decide) (by decide) (by decide))
    have W14 : Hid (((w13.setCell ⟨bt, 13, none⟩ (.string ⟨#[97, 116, 108, 101, 97, 115, 116]⟩)).setCell ⟨bt, 14, none⟩ (.string s)).heap[bw]? = some (.cells (numC N2 S2) 43 (0, 0))) := Lib.hid (((stays_set w13 bt 13 _).trans (stays_set _ bt 14 _)).cells n1 W13.out)
    generalize (w13.setCell ⟨bt, 13, none⟩ (.string ⟨#[97, 116, 108, 101, 97, 115, 116]⟩)).setCell ⟨bt, 14, none⟩ (.string s) = w14 at V14 I14 W14 ⊢
    clear f0 f1 f2 f3 f4 f5 f6 r13 r14 y13 y14 e0 e1 e2 e3 e4 e5 e6 p13 p14 z13 z14 hb13 V13 I13 W13 C6 V12 I12 W12 hz2 hz3 ht2
    have a0 := cellOf (i := 0) V14.out.v rfl
    have a1 := cellOf (i := 1) V14.out.v rfl
    have a2 := cellOf (i := 2) V14.out.v rfl
    have a3 := cellOf (i := 3) V14.out.v rfl
    have a4 := cellOf (i := 4) V14.out.v rfl
    have a5 := cellOf (i := 5) V14.out.v rfl
    have a6 := cellOf (i := 6) V14.out.v rfl
    have b0 := cellOf (i := 0) W14.out rfl
    have b1 := cellOf (i := 1) W14.out rfl
    have b2 := cellOf (i := 2) W14.out rfl
    have b3 := cellOf (i := 3) W14.out rfl
    have b4 := cellOf (i := 4) W14.out rfl
    have b5 := cellOf (i := 5) W14.out rfl
    have b6 := cellOf (i := 6) W14.out rfl
    obtain ⟨o, ho⟩ : ∃ o, Hid (orI (cmpI (wholeOf N4 S4) (wholeOf N2 S2)) (cmpI (partOf N4 S4) (partOf N2 S2)) = o) := ⟨_, Lib.hid rfl⟩
    obtain ⟨b7, hb7⟩ : ∃ b7, Hid (decide (o < 0) = b7) := ⟨_, Lib.hid rfl⟩
    have C7 : Hid (∀ W, Calls Tryz.prog 7 #[.agg (numC N4 S4), .agg (numC N2 S2)] W fun e w' => RetBool b7 e ∧ RowKit.Below W.heap.size W w') := Lib.hid fun W => by
      have := less6_num N4 N2 S4 S2 _ W hN4 hN2 rfl (by omega) _ rfl
      rw [cmp_eq N4 N2 S4 S2 _ rfl hS4 hS2, ho.out, hb7.out] at this
      exact this
    go_wp2_with (first | (go_at_call 7; (with_reducible refine (C7.out _).mono ?_); rintro e w15 ⟨rfl, hb15⟩; have V15 := Lib.hid (V14.out.below hb15); have I15 := Lib.hid (I14.out.below hb15)))
    refine HR.out _ _ ?_
    obtain ⟨hz, hbg⟩ := begins_tx hsd
    have hw : (!b7) = decide (0 ≤ orI (cmpI (wholeOf N4 S4) (wholeOf N2 S2)) (cmpI (partOf N4 S4) (partOf N2 S2))) := by rw [ho.out, ← hb7.out]; exact want_le o
    exact end_atl hk V15.out.m0 V15.out.m1 hN2 hS2 hN4 hS4 hsd hz hbg h3 ⟨rfl, rfl, rfl, rfl, rfl, rfl, rfl, rfl, by exact congrArg Value.bool hw⟩ ⟨I15.out.tens, I15.out.pow, I15.out.c, I15.out.s, I15.out.r, V15.out.i, I15.out.g, V15.out.t, V15.out.v, V15.out.ne⟩ (fun w' hw' => ⟨rfl, I15.out.b.trans (hw'.mono I15.out.b.size)⟩)
  · have hm : (k : Int).tmod 3 = 2 := by rw [hmod, h3]; rfl
    have I8 : Hid (Inv w (w7.setCell ⟨bs, 1, none⟩ (.int .i64 2)) nA nB bc bs br bg la na lb nb 2) := Lib.hid (I7.out.kind 2)
    have V8 := Lib.hid (V7.out.other (stays_set w7 bs 1 (.int .i64 2)) I7.out.s (by decide) (by decide))
    have c0 := cellOf (i := 3) I7.out.g rfl
    have c1 := cellOf (i := 1) I7.out.s rfl
    have z1 := frozenOf (i := 1) I7.out.s
    go_upto_region 9 with (fail)
    clear c0 c1 z1 V7 I7
    generalize w7.setCell ⟨bs, 1, none⟩ (.int .i64 2) = w8 at I8 V8 ⊢
    clear w7
    have CA : Hid (∀ W, Inv w W nA nB bc bs br bg la na lb nb 2 → Calls Tryz.prog 5 #[.pointer (some ⟨nA, 0, none⟩), .int .i64 2] W fun e w' => RetNumC e ∧ Inv w w' nA nB bc bs br bg la na lb nb 2 ∧ Stays nA W w') := fun W h => numA_any h HAM.out
    have CB : Hid (∀ W, Inv w W nA nB bc bs br bg la na lb nb 2 → Calls Tryz.prog 5 #[.pointer (some ⟨nB, 0, none⟩), .int .i64 2] W fun e w' => RetNumC e ∧ Inv w w' nA nB bc bs br bg la na lb nb 2 ∧ Stays nB W w') := fun W h => numB_any h HBM.out
    go_upto_region 10 with (go_at_call 5; (with_reducible refine (CA.out _ I8.out).mono ?_); rintro e w9 ⟨⟨N4, S4, rfl, hN4, hS4⟩, i9, s9⟩; have I9 := Lib.hid i9; obtain ⟨csA, hatA⟩ := I8.out.A.at; have V9 := Lib.hid (V8.out.other s9 hatA (by decide) (by decide)); clear i9 s9 hatA; have q0 := cellOf (i := 0) V9.out.v rfl; have q1 := cellOf (i := 1) V9.out.v rfl; have q2 := cellOf (i := 2) V9.out.v rfl; have q3 := cellOf (i := 3) V9.out.v rfl; have q4 := cellOf (i := 4) V9.out.v rfl; have q5 := cellOf (i := 5) V9.out.v rfl; have q6 := cellOf (i := 6) V9.out.v rfl; have z0 := frozenOf (i := 0) V9.out.v; have z1 := frozenOf (i := 1) V9.out.v; have z2 := frozenOf (i := 2) V9.out.v; have z3 := frozenOf (i := 3) V9.out.v; have z4 := frozenOf (i := 4) V9.out.v; have z5 := frozenOf (i := 5) V9.out.v; have z6 := frozenOf (i := 6) V9.out.v)
    have V10 := Lib.hid (V9.out.num N4 S4)
    have I10 := Lib.hid (I9.out.other (set7_stays w9 bv (.int .i64 2) (.string ⟨#[]⟩) (.int .i64 N4) (.int .i64 S4) (.int .i64 0) (.slice none 0 0) (.slice none 0 0)) leT.out.2 V9.out.v (by decide) (by decide) (by decide) (by decide) (by decide))
    unfold set7 at V10 I10
    clear q0 q1 q2 q3 q4 q5 q6 z0 z1 z2 z3 z4 z5 z6 V8 V9 I8 I9
    generalize ((((((w9.setCell ⟨bv, 0, none⟩ (.int .i64 2)).setCell ⟨bv, 1, none⟩ (.string ⟨#[]⟩)).setCell ⟨bv, 2, none⟩ (.int .i64 N4)).setCell ⟨bv, 3, none⟩ (.int .i64 S4)).setCell ⟨bv, 4, none⟩ (.int .i64 0)).setCell ⟨bv, 5, none⟩ (.slice none 0 0)).setCell ⟨bv, 6, none⟩ (.slice none 0 0) = w10 at I10 V10 ⊢
    go_upto_region 11 with (go_at_call 5; (with_reducible refine (CB.out _ I10.out).mono ?_); rintro e w11 ⟨⟨N2, S2, rfl, hN2, hS2⟩, i11, s11⟩; have I11 := Lib.hid i11; obtain ⟨csB, hatB⟩ := I10.out.B.at; have V11 := Lib.hid (V10.out.other s11 hatB (by decide) (by decide)); clear i11 s11 hatB)
    have I12 := Lib.hid (I11.out.alloc (.cells (numC N2 S2) 43 (0, 0)))
    have V12 := Lib.hid (V11.out.below (W' := w11.alloc (.cells (numC N2 S2) 43 (0, 0))) ((Below.refl _ _).alloc (Nat.le_refl _) _))
    have W12 := Lib.hid (heapNew w11 (.cells (numC N2 S2) 43 (0, 0)))
    have nw : Hid (bv ≠ w11.heap.size) := Lib.hid (by have := (Array.getElem?_eq_some_iff.1 V11.out.v).1; omega)
    clear CA CB I10 I11 V10 V11
    generalize w11.alloc (.cells (numC N2 S2) 43 (0, 0)) = w12 at I12 V12 W12 ⊢
    generalize w11.heap.size = bw at W12 nw ⊢
    clear w11 w10
    have e0 := cellOf (i := 0) W12.out rfl
    have e1 := cellOf (i := 1) W12.out rfl
    have e2 := cellOf (i := 2) W12.out rfl
    have e3 := cellOf (i := 3) W12.out rfl
    have e4 := cellOf (i := 4) W12.out rfl
    have e5 := cellOf (i := 5) W12.out rfl
    have e6 := cellOf (i := 6) W12.out rfl
    have p13 := cellOf (i := 13) V12.out.t rfl
    have p14 := cellOf (i := 14) V12.out.t rfl
    have z13 := frozenOf (i := 13) V12.out.t
    have z14 := frozenOf (i := 14) V12.out.t
    have n1 := ne_type W12.out V12.out.t (by decide)
    have n2 := ne_type V12.out.t W12.out (by decide)
    have C6 : Hid (∀ W, Calls Tryz.prog 6 #[.agg (numC N2 S2)] W fun e w' => RetTx (35 :: txD (decide (N2 < 0)) N2.natAbs S2) e ∧ RowKit.Below W.heap.size W w') := fun W => text6_num N2 S2 W hN2 hS2
    go_region_held3 (fun W => W.cell? ⟨bw, 0, none⟩ = some (.int .i64 2) ∧ W.cell? ⟨bw, 1, none⟩ = some (.string ⟨#[]⟩) ∧ W.cell? ⟨bw, 2, none⟩ = some (.int .i64 N2) ∧ W.cell? ⟨bw, 3, none⟩ = some (.int .i64 S2) ∧ W.cell? ⟨bw, 4, none⟩ = some (.int .i64 0) ∧ W.cell? ⟨bw, 5, none⟩ = some (.slice none 0 0) ∧ W.cell? ⟨bw, 6, none⟩ = some (.slice none 0 0)) (first | exact ⟨e0, e1, e2, e3, e4, e5, e6⟩ | exact ⟨f0, f1, f2, f3, f4, f5, f6⟩ | go_keep) (first | (go_at_call 6; (with_reducible refine (C6.out _).mono ?_); rintro e w13 ⟨⟨t2, rfl, ht2⟩, hb13⟩; have V13 := Lib.hid ((V12.out.below (W' := w12.drew) (Below.refl _ _).drew).below hb13); have I13 := Lib.hid ((I12.out.below (W' := w12.drew) (Below.refl _ _).drew).below hb13); have W13 := Lib.hid ((hb13.block bw (Array.getElem?_eq_some_iff.1 W12.out).1).trans W12.out); have f0 := cellOf (i := 0) W13.out rfl; have f1 := cellOf (i := 1) W13.out rfl; have f2 := cellOf (i := 2) W13.out rfl; have f3 := cellOf (i := 3) W13.out rfl; have f4 := cellOf (i := 4) W13.out rfl; have f5 := cellOf (i := 5) W13.out rfl; have f6 := cellOf (i := 6) W13.out rfl; have r13 := cellOf (i := 13) V13.out.t rfl; have r14 := cellOf (i := 14) V13.out.t rfl; have y13 := frozenOf (i := 13) V13.out.t; have y14 := frozenOf (i := 14) V13.out.t; have hz2 : (1 : Int) ≤ (t2.size : Int) := (by have : t2.data.toList.length = (35 :: txD (decide (N2 < 0)) N2.natAbs S2).length := (by rw [ht2]); rw [Array.length_toList, List.length_cons] at this; have e : t2.size = t2.data.size := rfl; omega); have hz3 : (0 : Int) ≤ (t2.size : Int) := (by omega)))
    have hsd := tx_drop ht2
    generalize t2.extract 1 t2.size = s at hsd ⊢
    have V14 : Hid (ValsN ((w13.setCell ⟨bt, 13, none⟩ (.string ⟨#[97, 116, 108, 101, 97, 115, 116]⟩)).setCell ⟨bt, 14, none⟩ (.string s)) bi bt bv M atlB s N4 S4) := Lib.hid ((V13.out.prop atlB).param s)
    have I14 : Hid (Inv w ((w13.setCell ⟨bt, 13, none⟩ (.string ⟨#[97, 116, 108, 101, 97, 115, 116]⟩)).setCell ⟨bt, 14, none⟩ (.string s)) nA nB bc bs br bg la na lb nb 2) := Lib.hid (I13.out.other ((stays_set w13 bt 13 _).trans (stays_set _ bt 14 _)) leT.out.1 V13.out.t (by decide) (by decide) (by decide) (by decide) (by decide))
    have W14 : Hid (((w13.setCell ⟨bt, 13, none⟩ (.string ⟨#[97, 116, 108, 101, 97, 115, 116]⟩)).setCell ⟨bt, 14, none⟩ (.string s)).heap[bw]? = some (.cells (numC N2 S2) 43 (0, 0))) := Lib.hid (((stays_set w13 bt 13 _).trans (stays_set _ bt 14 _)).cells n1 W13.out)
    generalize (w13.setCell ⟨bt, 13, none⟩ (.string ⟨#[97, 116, 108, 101, 97, 115, 116]⟩)).setCell ⟨bt, 14, none⟩ (.string s) = w14 at V14 I14 W14 ⊢
    clear f0 f1 f2 f3 f4 f5 f6 r13 r14 y13 y14 e0 e1 e2 e3 e4 e5 e6 p13 p14 z13 z14 hb13 V13 I13 W13 C6 V12 I12 W12 hz2 hz3 ht2
    have a0 := cellOf (i := 0) V14.out.v rfl
    have a1 := cellOf (i := 1) V14.out.v rfl
    have a2 := cellOf (i := 2) V14.out.v rfl
    have a3 := cellOf (i := 3) V14.out.v rfl
    have a4 := cellOf (i := 4) V14.out.v rfl
    have a5 := cellOf (i := 5) V14.out.v rfl
    have a6 := cellOf (i := 6) V14.out.v rfl
    have b0 := cellOf (i := 0) W14.out rfl
    have b1 := cellOf (i := 1) W14.out rfl
    have b2 := cellOf (i := 2) W14.out rfl
    have b3 := cellOf (i := 3) W14.out rfl
    have b4 := cellOf (i := 4) W14.out rfl
    have b5 := cellOf (i := 5) W14.out rfl
    have b6 := cellOf (i := 6) W14.out rfl
    obtain ⟨o, ho⟩ : ∃ o, Hid (orI (cmpI (wholeOf N4 S4) (wholeOf N2 S2)) (cmpI (partOf N4 S4) (partOf N2 S2)) = o) := ⟨_, Lib.hid rfl⟩
    obtain ⟨b7, hb7⟩ : ∃ b7, Hid (decide (o < 0) = b7) := ⟨_, Lib.hid rfl⟩
    have C7 : Hid (∀ W, Calls Tryz.prog 7 #[.agg (numC N4 S4), .agg (numC N2 S2)] W fun e w' => RetBool b7 e ∧ RowKit.Below W.heap.size W w') := Lib.hid fun W => by
      have := less6_num N4 N2 S4 S2 _ W hN4 hN2 rfl (by omega) _ rfl
      rw [cmp_eq N4 N2 S4 S2 _ rfl hS4 hS2, ho.out, hb7.out] at this
      exact this
    obtain ⟨b8, hb8⟩ : ∃ b8, Hid (decide (orI (cmpI (wholeOf N2 S2) (wholeOf N4 S4)) (cmpI (partOf N2 S2) (partOf N4 S4)) < 0) = b8) := ⟨_, Lib.hid rfl⟩
    have C8 : Hid (∀ W, Calls Tryz.prog 7 #[.agg (numC N2 S2), .agg (numC N4 S4)] W fun e w' => RetBool b8 e ∧ RowKit.Below W.heap.size W w') := Lib.hid fun W => by
      have := less6_num N2 N4 S2 S4 _ W hN2 hN4 rfl (by omega) _ rfl
      rw [cmp_eq N2 N4 S2 S4 _ rfl hS2 hS4, hb8.out] at this
      exact this
    go_upto_region 15 with (first | (go_at_call 7; (with_reducible refine (C7.out _).mono ?_); rintro e w15 ⟨rfl, hb15⟩; have V15 := Lib.hid (V14.out.below hb15); have I15 := Lib.hid (I14.out.below hb15); have W15 := Lib.hid ((hb15.block bw (Array.getElem?_eq_some_iff.1 W14.out).1).trans W14.out); have r13 := cellOf (i := 13) V15.out.t rfl; have y13 := frozenOf (i := 13) V15.out.t))
    have V16 : Hid (ValsN (w15.setCell ⟨bt, 13, none⟩ (.string ⟨#[97, 116, 109, 111, 115, 116]⟩)) bi bt bv M atmB s N4 S4) := Lib.hid (V15.out.prop atmB)
    have I16 : Hid (Inv w (w15.setCell ⟨bt, 13, none⟩ (.string ⟨#[97, 116, 109, 111, 115, 116]⟩)) nA nB bc bs br bg la na lb nb 2) := Lib.hid (I15.out.other (stays_set w15 bt 13 _) leT.out.1 V15.out.t (by decide) (by decide) (by decide) (by decide) (by decide))
    have W16 : Hid ((w15.setCell ⟨bt, 13, none⟩ (.string ⟨#[97, 116, 109, 111, 115, 116]⟩)).heap[bw]? = some (.cells (numC N2 S2) 43 (0, 0))) := Lib.hid ((stays_set w15 bt 13 _).cells n1 W15.out)
    generalize w15.setCell ⟨bt, 13, none⟩ (.string ⟨#[97, 116, 109, 111, 115, 116]⟩) = w16 at V16 I16 W16 ⊢
    clear a0 a1 a2 a3 a4 a5 a6 b0 b1 b2 b3 b4 b5 b6 r13 y13 hb15 V15 I15 W15 C7 V14 I14 W14
    have a0 := cellOf (i := 0) V16.out.v rfl
    have a1 := cellOf (i := 1) V16.out.v rfl
    have a2 := cellOf (i := 2) V16.out.v rfl
    have a3 := cellOf (i := 3) V16.out.v rfl
    have a4 := cellOf (i := 4) V16.out.v rfl
    have a5 := cellOf (i := 5) V16.out.v rfl
    have a6 := cellOf (i := 6) V16.out.v rfl
    have b0 := cellOf (i := 0) W16.out rfl
    have b1 := cellOf (i := 1) W16.out rfl
    have b2 := cellOf (i := 2) W16.out rfl
    have b3 := cellOf (i := 3) W16.out rfl
    have b4 := cellOf (i := 4) W16.out rfl
    have b5 := cellOf (i := 5) W16.out rfl
    have b6 := cellOf (i := 6) W16.out rfl
    go_wp2_with (first | (go_at_call 7; (with_reducible refine (C8.out _).mono ?_); rintro e w17 ⟨rfl, hb17⟩; have V17 := Lib.hid (V16.out.below hb17); have I17 := Lib.hid (I16.out.below hb17)))
    refine HR.out _ _ ?_
    obtain ⟨hz, hbg⟩ := begins_tx hsd
    have hw : (!b8) = decide (orI (cmpI (wholeOf N4 S4) (wholeOf N2 S2)) (cmpI (partOf N4 S4) (partOf N2 S2)) ≤ 0) := by rw [← hb8.out]; exact want_ge _ _ _ _
    exact end_atm hk V17.out.m0 V17.out.m1 hN2 hS2 hN4 hS4 hsd hz hbg h3 ⟨rfl, rfl, rfl, rfl, rfl, rfl, rfl, rfl, by exact congrArg Value.bool hw⟩ ⟨I17.out.tens, I17.out.pow, I17.out.c, I17.out.s, I17.out.r, V17.out.i, I17.out.g, V17.out.t, V17.out.v, V17.out.ne⟩ (fun w' hw' => ⟨rfl, I17.out.b.trans (hw'.mono I17.out.b.size)⟩)
end Go.EvProp
