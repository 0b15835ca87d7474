/-
  The program reads the text of a decimal back.
-/
import Derived.Test.YtcooocbhkkmiaaaGreatDoorWalkL
import Derived.Lib.IndexLaws
set_option linter.all false
namespace Go.EvProp
open Go Go.Proofs Go.RowKit Go.Lib
set_option maxRecDepth 100000

theorem ixb_none : ∀ (l : List UInt8), (∀ c ∈ l, isDig c) → indexByte l 46 = -1
  | [], _ => rfl
  | b :: l, h => by
    have hb := h b (List.mem_cons_self ..)
    have hne : (b == 46) = false := by
      rw [beq_eq_false_iff_ne]
      intro e
      rw [e] at hb
      exact absurd hb.1 (by decide)
    rw [indexByte, hne, ixb_none l (fun c hc => h c (List.mem_cons_of_mem _ hc))]
    rfl
theorem ixb_some : ∀ (l r : List UInt8), (∀ c ∈ l, isDig c) → indexByte (l ++ 46 :: r) 46 = l.length
  | [], r, _ => by simp [indexByte]
  | b :: l, r, h => by
    have hb := h b (List.mem_cons_self ..)
    have hne : (b == 46) = false := by
      rw [beq_eq_false_iff_ne]
      intro e
      rw [e] at hb
      exact absurd hb.1 (by decide)
    have ih := ixb_some l r (fun c hc => h c (List.mem_cons_of_mem _ hc))
    rw [List.cons_append, indexByte, hne, ih]
    have h1 : (((l.length : Nat) : Int) == -1) = false := by rw [beq_eq_false_iff_ne]; omega
    rw [h1]
    simp

theorem index_any (s : ByteArray) (c : UInt8) (w : World) : Calls Tryz.prog 240 #[.string s, .string ⟨#[c]⟩] w fun e w' => e = .returned (.int .i64 (indexByte s.data.toList c)) ∧ w' = w := Any.stringslite_Index_one Tryz.lays219 s c w
theorem cutPrefix_any (s p : ByteArray) (w : World) : Calls Tryz.prog 136 #[.string s, .string p] w fun e w' => e = .returned (.tuple #[.string ⟨(trimPrefix s.data.toList p.data.toList).toArray⟩, .bool (hasPrefix s.data.toList p.data.toList)]) ∧ w' = w := Any.strings_CutPrefix Tryz.lays103 s p w

def RetCut (l r : List UInt8) (f : Bool) (e : Ending) : Prop := ∃ a b : ByteArray, e = .returned (.tuple #[.string a, .string b, .bool f]) ∧ a.data.toList = l ∧ b.data.toList = r

set_option maxHeartbeats 1000000 in
theorem cutIn_found (s : ByteArray) (l r : List UInt8) (w : World) (hs : s.data.toList = l ++ 46 :: r) (hl : ∀ c ∈ l, isDig c) (hz : s.size ≤ 100) : Calls Tryz.prog 190 #[.string s, .string ⟨#[46]⟩] w fun e w' => RetCut l r true e ∧ RowKit.Below w.heap.size w w' := by
  have C1 : Hid (∀ w, Calls Tryz.prog 240 #[.string s, .string ⟨#[46]⟩] w fun e w' => e = .returned (.int .i64 (l.length : Int)) ∧ w' = w) := fun w => by
    have := index_any s 46 w
    rw [hs, ixb_some l r hl] at this
    exact this
  have hsz : s.size = l.length + 1 + r.length := by
    have : s.data.toList.length = l.length + 1 + r.length := by rw [hs]; simp; omega
    rw [Array.length_toList] at this
    exact this
  obtain ⟨P, hP⟩ : ∃ P, P = l.length := ⟨_, rfl⟩
  rw [← hP] at C1 hsz
  have e1 : Hid ((s.extract 0 P).data.toList = l) := by
    show (s.extract 0 P).data.toList = _
    rw [extract_take, hs, hP, List.take_append_of_le_length (Nat.le_refl _), List.take_length]
  have e2 : Hid ((s.extract (P + 1) s.size).data.toList = r) := by
    show (s.extract (P + 1) s.size).data.toList = _
    rw [Lib.extract_to_end, hs, hP]
    simp
  have i1 : (0 : Int) ≤ (P : Int) := by omega
  have i2 : P ≤ s.size := by omega
  have i3 : P + 1 ≤ s.size := by omega
  clear hs hl hP hsz
  go_enter Tryz.func190, Tryz.ntmps190
  go_wp2_with (go_at_call 240; (with_reducible refine (C1.out _).mono ?_); rintro e w1 ⟨rfl, rfl⟩)
  go_quiet (fail)
  go_wp2
  go_ret3
  exact ⟨⟨_, _, rfl, e1.out, e2.out⟩, ⟨rfl, rfl, rfl, Nat.le_refl _, fun _ _ => rfl⟩⟩

set_option maxHeartbeats 1000000 in
theorem cutIn_none (s : ByteArray) (l : List UInt8) (w : World) (hs : s.data.toList = l) (hl : ∀ c ∈ l, isDig c) : Calls Tryz.prog 190 #[.string s, .string ⟨#[46]⟩] w fun e w' => RetCut l [] false e ∧ RowKit.Below w.heap.size w w' := by
  have C1 : Hid (∀ w, Calls Tryz.prog 240 #[.string s, .string ⟨#[46]⟩] w fun e w' => e = .returned (.int .i64 (-1)) ∧ w' = w) := fun w => by
    have := index_any s 46 w
    rw [hs, ixb_none l hl] at this
    exact this
  have HS := Lib.hid hs
  clear hs hl
  go_enter Tryz.func190, Tryz.ntmps190
  go_wp2_with (go_at_call 240; (with_reducible refine (C1.out _).mono ?_); rintro e w1 ⟨rfl, rfl⟩)
  go_ret3
  exact ⟨⟨_, _, rfl, HS.out, rfl⟩, RowKit.Below.refl _ _⟩

set_option maxHeartbeats 1000000 in
theorem cut_of (s : ByteArray) (l r : List UInt8) (f : Bool) (w : World) (h : ∀ w, Calls Tryz.prog 190 #[.string s, .string ⟨#[46]⟩] w fun e w' => RetCut l r f e ∧ RowKit.Below w.heap.size w w') : Calls Tryz.prog 137 #[.string s, .string ⟨#[46]⟩] w fun e w' => RetCut l r f e ∧ RowKit.Below w.heap.size w w' := by
  have C1 := Lib.hid h
  clear h
  go_enter Tryz.func137, Tryz.ntmps137
  go_wp2_with (go_at_call 190; (with_reducible refine (C1.out _).mono ?_); rintro e w1 ⟨⟨a, b, rfl, ha, hb⟩, hbb⟩)
  go_ret3
  exact ⟨⟨a, b, rfl, ha, hb⟩, hbb⟩
end Go.EvProp

namespace Go.EvProp
open Go Go.Proofs Go.RowKit Go.Lib
set_option maxRecDepth 100000

theorem valD_lt' : ∀ (k : Nat) (l : List UInt8), l.length = k → (∀ c ∈ l, isDig c) → valD l < 10 ^ k
  | 0, l, hk, _ => by
    have : l = [] := List.eq_nil_of_length_eq_zero hk
    subst this
    decide
  | k + 1, l, hk, h => by
    rcases List.eq_nil_or_concat l with rfl | ⟨L, c, rfl⟩
    · simp at hk
    · have hk' : L.length = k := by simpa using hk
      have h1 := valD_lt' k L hk' fun d hd => h d (by simp [hd])
      have h2 := h c (by simp)
      have e : L.concat c = L ++ [c] := List.concat_eq_append
      rw [e, valD_snoc, Nat.pow_succ]
      have := h2.2
      omega
theorem valD_lt (l : List UInt8) (h : ∀ c ∈ l, isDig c) : valD l < 10 ^ l.length := valD_lt' _ l rfl h
theorem valD_take_succ (l : List UInt8) (k : Nat) (h : k < l.length) : valD (l.take (k + 1)) = valD (l.take k) * 10 + (l[k].toNat - 48) := by
  rw [List.take_succ_eq_append_getElem h, valD_snoc]
theorem valD_take_lt (l : List UInt8) (k : Nat) (h : ∀ c ∈ l, isDig c) (hl : l.length ≤ 17) : valD (l.take k) < 100000000000000000 := by
  have h1 := valD_lt (l.take k) fun c hc => h c (List.mem_of_mem_take hc)
  have h2 : (l.take k).length ≤ 17 := by rw [List.length_take]; omega
  have h3 : 10 ^ (l.take k).length ≤ 10 ^ 17 := Nat.pow_le_pow_right (by omega) h2
  have h4 : (10 : Nat) ^ 17 = 100000000000000000 := by decide
  omega
def lastOf (n S : Nat) : List UInt8 := if 0 < S then fr S n else []
theorem last_len (n S : Nat) : (lastOf n S).length = S := by
  unfold lastOf
  split
  · exact fr_len S n
  · have : S = 0 := by omega
    simp [this]
theorem whole_last (n S : Nat) : decDigits (n / 10 ^ S) ++ lastOf n S = decDigits (n / 10 ^ S) ++ fr S n := by
  unfold lastOf
  split
  · rfl
  · have : S = 0 := by omega
    subst this
    simp [fr]
theorem whole_digs (n S : Nat) : ∀ c ∈ decDigits (n / 10 ^ S) ++ lastOf n S, isDig c := by
  rw [whole_last]
  intro c hc
  rcases List.mem_append.1 hc with hc | hc
  · exact dec_digs _ c hc
  · exact fr_digs _ _ c hc
theorem body_ne (n S : Nat) : hasPrefix (body n S) [45] = false := by
  unfold body
  have h1 := dec_pos (n / 10 ^ S)
  have h2 := dec_digs (n / 10 ^ S)
  cases hd : decDigits (n / 10 ^ S) with
  | nil => rw [hd] at h1; simp at h1
  | cons c l =>
    have hc := h2 c (by rw [hd]; exact List.mem_cons_self ..)
    unfold hasPrefix
    have hne : ¬ 45 = c := fun e => by rw [← e] at hc; exact absurd hc.1 (by decide)
    simp [List.isPrefixOf, hne]
theorem body_short (n S : Nat) (hn : n ≤ 1000000000000000) (hS : S ≤ 3) : (decDigits (n / 10 ^ S) ++ lastOf n S).length ≤ 17 := by
  rw [List.length_append, last_len]
  have h1 := txD_short true n S hn hS
  rw [txD_body, List.length_append] at h1
  unfold body at h1
  rw [List.length_append] at h1
  simp only [if_true, List.length_singleton] at h1
  have : S = 0 ∨ S = 1 ∨ S = 2 ∨ S = 3 := by omega
  rcases this with rfl | rfl | rfl | rfl
  · simp at h1 ⊢; omega
  · rw [if_pos (by omega), List.length_cons, fr_len] at h1; omega
  · rw [if_pos (by omega), List.length_cons, fr_len] at h1; omega
  · rw [if_pos (by omega), List.length_cons, fr_len] at h1; omega
theorem cutPre (neg : Bool) (n S : Nat) (s : ByteArray) (w : World) (hs : s.data.toList = txD neg n S) : Calls Tryz.prog 136 #[.string s, .string ⟨#[45]⟩] w fun e w' => (∃ t : ByteArray, e = .returned (.tuple #[.string t, .bool neg]) ∧ t.data.toList = body n S) ∧ w' = w := by
  have h := cutPrefix_any s ⟨#[45]⟩ w
  rw [hs, txD_body] at h
  have h45 : (⟨#[45]⟩ : ByteArray).data.toList = [45] := rfl
  rw [h45] at h
  cases neg with
  | true =>
    have e1 : hasPrefix ((if true = true then [45] else []) ++ body n S) [45] = true := by simp [hasPrefix]
    unfold trimPrefix at h
    rw [e1] at h
    refine h.mono fun e w' ⟨h1, h2⟩ => ⟨⟨_, h1, ?_⟩, h2⟩
    simp
  | false =>
    have e1 : hasPrefix ((if false = true then [45] else []) ++ body n S) [45] = false := by simpa using body_ne n S
    unfold trimPrefix at h
    rw [e1] at h
    refine h.mono fun e w' ⟨h1, h2⟩ => ⟨⟨_, h1, ?_⟩, h2⟩
    simp
theorem cutDot (n S : Nat) (hn : n ≤ 1000000000000000) (hS : S ≤ 3) (t : ByteArray) (w : World) (ht : t.data.toList = body n S) : Calls Tryz.prog 137 #[.string t, .string ⟨#[46]⟩] w fun e w' => RetCut (decDigits (n / 10 ^ S)) (lastOf n S) (decide (0 < S)) e ∧ RowKit.Below w.heap.size w w' := by
  by_cases h : 0 < S
  · have h1 : t.data.toList = decDigits (n / 10 ^ S) ++ 46 :: fr S n := by rw [ht]; unfold body; rw [if_pos h]
    have h2 : lastOf n S = fr S n := by unfold lastOf; rw [if_pos h]
    have h3 : decide (0 < S) = true := by simp [h]
    rw [h2, h3]
    have hz : t.size ≤ 100 := by
      have h4 := txD_short false n S hn hS
      have h5 : txD false n S = body n S := by rw [txD_body]; simp
      rw [h5, ← ht, Array.length_toList] at h4
      have h4 : t.size ≤ 18 := h4
      omega
    exact cut_of t _ _ _ w fun w => cutIn_found t _ _ w h1 (dec_digs _) hz
  · have h1 : t.data.toList = decDigits (n / 10 ^ S) := by rw [ht]; unfold body; rw [if_neg h]; simp
    have h2 : lastOf n S = [] := by unfold lastOf; rw [if_neg h]
    have h3 : decide (0 < S) = false := by simp; omega
    rw [h2, h3]
    exact cut_of t _ _ _ w fun w => cutIn_none t _ w h1 (dec_digs _)
theorem BoxD.new (w : World) (N : Int) (S : Nat) : (w.alloc (.cells #[.int .i64 N, .int .i64 S] 39 (0, 0))).heap[w.heap.size]? = some (.cells #[.int .i64 N, .int .i64 S] 39 (0, 0)) := heapNew w _
theorem ba_ext {a b : ByteArray} (h : a.data.toList = b.data.toList) : a = b := by
  cases a; cases b
  simp only at h
  congr 1
  exact Array.ext' h

set_option maxHeartbeats 4000000 in
theorem dparse_true (S n : Nat) (s : ByteArray) (w : World) (h : RightD (-(n : Int)) S) (hS : S ≤ 3) (hs : s.data.toList = txD true n S) (hs2 : txD (decide ((-(n : Int)) < 0)) (-(n : Int)).natAbs S = txD true n S) (hp : PowAt w) : Calls Tryz.prog 70 #[.string s] w fun e w' => e = .returned (.tuple #[.agg #[.int .i64 (-(n : Int)), .int .i64 S], .bool true]) ∧ RowKit.Below w.heap.size w w' := by
  have hn1 : n ≤ 1000000000000000 := by have := h.2.2; omega
  have C1 := Lib.hid fun w => cutPre true n S s w hs
  have C2 := Lib.hid fun t w ht => cutDot n S hn1 hS t w ht
  have C3 : Hid (∀ w, Calls Tryz.prog 138 #[.int .i64 (-(n : Int)), .int .i64 S] w fun e w' => e = .returned (.tuple #[.agg #[.int .i64 (-(n : Int)), .int .i64 S], .bool true]) ∧ RowKit.Below w.heap.size w w') := fun w => dmake_any (-(n : Int)) S w h hS
  have C4 : Hid (∀ w, PowAt w → Calls Tryz.prog 100 #[.agg #[.int .i64 (-(n : Int)), .int .i64 S]] w fun e w' => e = .returned (.string s) ∧ RowKit.Below w.heap.size w w') := fun w hp => (dtext_any (-(n : Int)) S w h hS hp).mono fun e w' ⟨⟨t, h1, h2⟩, h3⟩ => ⟨by rw [h1, ba_ext (h2.trans (hs2.trans hs.symm))], h3⟩
  have hsz : (s.size : Int) ≤ 18 := by
    have := txD_short true n S hn1 hS
    rw [← hs, Array.length_toList] at this
    have : s.size ≤ 18 := this
    omega
  have HP := Lib.hid hp
  have B0 := Lib.hid ((RowKit.Below.refl w.heap.size w).alloc (Nat.le_refl _) (.cells #[.int .i64 0, .int .i64 0] 39 (0, 0)))
  have hx0 := Lib.hid (heapNew w (.cells #[.int .i64 0, .int .i64 0] 39 (0, 0)))
  have HV := Lib.hid (whole_last n S ▸ valD_fr S n)
  have HD := Lib.hid (whole_digs n S)
  have HL := Lib.hid (body_short n S hn1 hS)
  have HS := Lib.hid (last_len n S)
  clear h hs hs2 hp hS
  generalize decDigits (n / 10 ^ S) = lw at *
  generalize lastOf n S = lr at *
  go_enter Tryz.func70, Tryz.ntmps70
  go_wp2_with (first
    | (go_at_call 136; (with_reducible refine (C1.out _).mono ?_); rintro e w1 ⟨⟨t1, rfl, ht1⟩, rfl⟩)
    | (go_at_call 137; (with_reducible refine (C2.out t1 _ ht1).mono ?_); rintro e w2 ⟨⟨tb, ta, rfl, htb, hta⟩, hb2⟩; have hz2 : tb.size + ta.size ≤ 17 := (by have := HL.out; rw [← htb, ← hta, List.length_append, Array.length_toList, Array.length_toList] at this; exact this); have hza : ta.size = S := (by have := HS.out; rw [← hta, Array.length_toList] at this; exact this); have hcat := Lib.hid (cat_data tb ta); have hcs : (tb ++ ta).size = tb.size + ta.size := (by simp)))
  have hx2 := (hb2.block _ (Array.getElem?_eq_some_iff.1 hx0.out).1).trans hx0.out
  have HX2 := Lib.hid hx2
  have B2 := Lib.hid (B0.out.trans (hb2.mono (by simp)))
  clear hx2 hb2 B0 hx0 C1 C2
  obtain ⟨t, ht⟩ : ∃ t, t = tb ++ ta := ⟨_, rfl⟩
  rw [← ht] at hcat hcs
  rw [← ht]
  have HT : Hid (t.data.toList = lw ++ lr) := by show t.data.toList = _; rw [hcat.out, htb, hta]
  clear ht htb hta hcat
  have hts : t.size ≤ 17 := by omega
  go_loop [9, 10, 33] (fun x i k => ∃ j : Nat, j ≤ t.size ∧ k = .int .i64 j ∧ x = .int .i64 (valD (t.data.toList.take j))) (fun _ _ k => t.size - (RowKit.intOf k).toNat)
  case atStart => exact ⟨0, Nat.zero_le _, rfl, rfl⟩
  case round =>
    obtain ⟨j, hj, rfl, rfl⟩ := hrel
    have hb := valD_take_lt t.data.toList j (by rw [HT.out]; exact HD.out) (by rw [Array.length_toList]; exact hts)
    by_cases hlt : j < t.size
    · have hlt' : j < t.data.toList.length := by rw [Array.length_toList]; exact hlt
      have hnx := Lib.hid (valD_take_succ t.data.toList j hlt')
      have hd : isDig (t[j]'hlt) := by
        have := HD.out (t.data.toList[j]) (by rw [← HT.out]; exact List.getElem_mem _)
        exact this
      have hd1 := hd.1
      have hd2 := hd.2
      have hd3 : ¬ (((t[j]'hlt).toNat : Nat) : Int) < 48 := by omega
      have hd4 : ¬ (57 : Int) < (((t[j]'hlt).toNat : Nat) : Int) := by omega
      have hej : t.data.toList[j] = t[j]'hlt := rfl
      have hnx' : valD (t.data.toList.take (j + 1)) = valD (t.data.toList.take j) * 10 + ((t[j]'hlt).toNat - 48) := by rw [hnx.out, hej]
      have HNX := Lib.hid hnx'
      clear hnx hnx' hej hlt'
      generalize hv : valD (t.data.toList.take j) = v at *
      go_wp2
      refine ⟨⟨j + 1, by omega, by go_num, ?_⟩, by simp [RowKit.intOf]; omega⟩
      rw [HNX.out]
      congr 1
      omega
    · have hjt : j = t.size := by omega
      have hv : valD (t.data.toList.take j) = n := by rw [hjt, List.take_of_length_le (by rw [Array.length_toList]; exact Nat.le_refl _), HT.out]; exact HV.out
      rw [hv] at hb ⊢
      clear hjt hv hb HV HD HL HS HT
      go_wp2_with (first
        | (go_at_call 138; (with_reducible refine (C3.out _).mono ?_); rintro e w4 ⟨rfl, hb4⟩; have B4 := Lib.hid (B2.out.trans (hb4.mono B2.out.size)); have hx4 := (hb4.block _ (Array.getElem?_eq_some_iff.1 HX2.out).1).trans HX2.out; have hn4 := BoxD.new w4 (-(n : Int)) S; have l4 := (Array.getElem?_eq_some_iff.1 hx4).1)
        | (have _ := hx4; go_at_call 100; (with_reducible refine (C4.out _ (HP.out.below (B4.out.alloc B4.out.size _))).mono ?_); rintro e w5 ⟨rfl, hb5⟩; have B5 := Lib.hid ((B4.out.alloc B4.out.size (.cells #[.int .i64 (-(n : Int)), .int .i64 S] 39 (0, 0))).trans (hb5.mono (by have := B4.out.size; simp; omega))); have hx5 := (hb5.block _ (by simp; omega)).trans ((heapOld w4 (.cells #[.int .i64 (-(n : Int)), .int .i64 S] 39 (0, 0)) l4).trans hx4); have hn5 := (hb5.block _ (Array.getElem?_eq_some_iff.1 hn4).1).trans hn4; have a0 := cellOf (i := 0) hn5 rfl; have a1 := cellOf (i := 1) hn5 rfl; have r0 := cellOf (i := 0) hx5 rfl; have r1 := cellOf (i := 1) hx5 rfl; have y0 := frozenOf (i := 0) hx5; have y1 := frozenOf (i := 1) hx5))
      refine bodyPost_ret (by simp [results, Tryz.results70, go_sem, r0, r1]; rfl) rfl ?_
      exact ⟨rfl, (B5.out.setCell (p := ⟨w.heap.size, 0, none⟩) (Nat.le_refl _) _).setCell (p := ⟨w.heap.size, 1, none⟩) (Nat.le_refl _) _⟩

set_option maxHeartbeats 4000000 in
theorem dparse_false (S n : Nat) (s : ByteArray) (w : World) (h : RightD ((n : Int)) S) (hS : S ≤ 3) (hs : s.data.toList = txD false n S) (hs2 : txD (decide (((n : Int)) < 0)) ((n : Int)).natAbs S = txD false n S) (hp : PowAt w) : Calls Tryz.prog 70 #[.string s] w fun e w' => e = .returned (.tuple #[.agg #[.int .i64 ((n : Int)), .int .i64 S], .bool true]) ∧ RowKit.Below w.heap.size w w' := by
  have hn1 : n ≤ 1000000000000000 := by have := h.2.2; omega
  have C1 := Lib.hid fun w => cutPre false n S s w hs
  have C2 := Lib.hid fun t w ht => cutDot n S hn1 hS t w ht
  have C3 : Hid (∀ w, Calls Tryz.prog 138 #[.int .i64 ((n : Int)), .int .i64 S] w fun e w' => e = .returned (.tuple #[.agg #[.int .i64 ((n : Int)), .int .i64 S], .bool true]) ∧ RowKit.Below w.heap.size w w') := fun w => dmake_any ((n : Int)) S w h hS
  have C4 : Hid (∀ w, PowAt w → Calls Tryz.prog 100 #[.agg #[.int .i64 ((n : Int)), .int .i64 S]] w fun e w' => e = .returned (.string s) ∧ RowKit.Below w.heap.size w w') := fun w hp => (dtext_any ((n : Int)) S w h hS hp).mono fun e w' ⟨⟨t, h1, h2⟩, h3⟩ => ⟨by rw [h1, ba_ext (h2.trans (hs2.trans hs.symm))], h3⟩
  have hsz : (s.size : Int) ≤ 18 := by
    have := txD_short false n S hn1 hS
    rw [← hs, Array.length_toList] at this
    have : s.size ≤ 18 := this
    omega
  have HP := Lib.hid hp
  have B0 := Lib.hid ((RowKit.Below.refl w.heap.size w).alloc (Nat.le_refl _) (.cells #[.int .i64 0, .int .i64 0] 39 (0, 0)))
  have hx0 := Lib.hid (heapNew w (.cells #[.int .i64 0, .int .i64 0] 39 (0, 0)))
  have HV := Lib.hid (whole_last n S ▸ valD_fr S n)
  have HD := Lib.hid (whole_digs n S)
  have HL := Lib.hid (body_short n S hn1 hS)
  have HS := Lib.hid (last_len n S)
  clear h hs hs2 hp hS
  generalize decDigits (n / 10 ^ S) = lw at *
  generalize lastOf n S = lr at *
  go_enter Tryz.func70, Tryz.ntmps70
  go_wp2_with (first
    | (go_at_call 136; (with_reducible refine (C1.out _).mono ?_); rintro e w1 ⟨⟨t1, rfl, ht1⟩, rfl⟩)
    | (go_at_call 137; (with_reducible refine (C2.out t1 _ ht1).mono ?_); rintro e w2 ⟨⟨tb, ta, rfl, htb, hta⟩, hb2⟩; have hz2 : tb.size + ta.size ≤ 17 := (by have := HL.out; rw [← htb, ← hta, List.length_append, Array.length_toList, Array.length_toList] at this; exact this); have hza : ta.size = S := (by have := HS.out; rw [← hta, Array.length_toList] at this; exact this); have hcat := Lib.hid (cat_data tb ta); have hcs : (tb ++ ta).size = tb.size + ta.size := (by simp)))
  have hx2 := (hb2.block _ (Array.getElem?_eq_some_iff.1 hx0.out).1).trans hx0.out
  have HX2 := Lib.hid hx2
  have B2 := Lib.hid (B0.out.trans (hb2.mono (by simp)))
  clear hx2 hb2 B0 hx0 C1 C2
  obtain ⟨t, ht⟩ : ∃ t, t = tb ++ ta := ⟨_, rfl⟩
  rw [← ht] at hcat hcs
  rw [← ht]
  have HT : Hid (t.data.toList = lw ++ lr) := by show t.data.toList = _; rw [hcat.out, htb, hta]
  clear ht htb hta hcat
  have hts : t.size ≤ 17 := by omega
  go_loop [9, 10, 33] (fun x i k => ∃ j : Nat, j ≤ t.size ∧ k = .int .i64 j ∧ x = .int .i64 (valD (t.data.toList.take j))) (fun _ _ k => t.size - (RowKit.intOf k).toNat)
  case atStart => exact ⟨0, Nat.zero_le _, rfl, rfl⟩
  case round =>
    obtain ⟨j, hj, rfl, rfl⟩ := hrel
    have hb := valD_take_lt t.data.toList j (by rw [HT.out]; exact HD.out) (by rw [Array.length_toList]; exact hts)
    by_cases hlt : j < t.size
    · have hlt' : j < t.data.toList.length := by rw [Array.length_toList]; exact hlt
      have hnx := Lib.hid (valD_take_succ t.data.toList j hlt')
      have hd : isDig (t[j]'hlt) := by
        have := HD.out (t.data.toList[j]) (by rw [← HT.out]; exact List.getElem_mem _)
        exact this
      have hd1 := hd.1
      have hd2 := hd.2
      have hd3 : ¬ (((t[j]'hlt).toNat : Nat) : Int) < 48 := by omega
      have hd4 : ¬ (57 : Int) < (((t[j]'hlt).toNat : Nat) : Int) := by omega
      have hej : t.data.toList[j] = t[j]'hlt := rfl
      have hnx' : valD (t.data.toList.take (j + 1)) = valD (t.data.toList.take j) * 10 + ((t[j]'hlt).toNat - 48) := by rw [hnx.out, hej]
      have HNX := Lib.hid hnx'
      clear hnx hnx' hej hlt'
      generalize hv : valD (t.data.toList.take j) = v at *
      go_wp2
      refine ⟨⟨j + 1, by omega, by go_num, ?_⟩, by simp [RowKit.intOf]; omega⟩
      rw [HNX.out]
      congr 1
      omega
    · have hjt : j = t.size := by omega
      have hv : valD (t.data.toList.take j) = n := by rw [hjt, List.take_of_length_le (by rw [Array.length_toList]; exact Nat.le_refl _), HT.out]; exact HV.out
      rw [hv] at hb ⊢
      clear hjt hv hb HV HD HL HS HT
      go_wp2_with (first
        | (go_at_call 138; (with_reducible refine (C3.out _).mono ?_); rintro e w4 ⟨rfl, hb4⟩; have B4 := Lib.hid (B2.out.trans (hb4.mono B2.out.size)); have hx4 := (hb4.block _ (Array.getElem?_eq_some_iff.1 HX2.out).1).trans HX2.out; have hn4 := BoxD.new w4 ((n : Int)) S; have l4 := (Array.getElem?_eq_some_iff.1 hx4).1)
        | (have _ := hx4; go_at_call 100; (with_reducible refine (C4.out _ (HP.out.below (B4.out.alloc B4.out.size _))).mono ?_); rintro e w5 ⟨rfl, hb5⟩; have B5 := Lib.hid ((B4.out.alloc B4.out.size (.cells #[.int .i64 ((n : Int)), .int .i64 S] 39 (0, 0))).trans (hb5.mono (by have := B4.out.size; simp; omega))); have hx5 := (hb5.block _ (by simp; omega)).trans ((heapOld w4 (.cells #[.int .i64 ((n : Int)), .int .i64 S] 39 (0, 0)) l4).trans hx4); have hn5 := (hb5.block _ (Array.getElem?_eq_some_iff.1 hn4).1).trans hn4; have a0 := cellOf (i := 0) hn5 rfl; have a1 := cellOf (i := 1) hn5 rfl; have r0 := cellOf (i := 0) hx5 rfl; have r1 := cellOf (i := 1) hx5 rfl; have y0 := frozenOf (i := 0) hx5; have y1 := frozenOf (i := 1) hx5))
      refine bodyPost_ret (by simp [results, Tryz.results70, go_sem, r0, r1]; rfl) rfl ?_
      exact ⟨rfl, (B5.out.setCell (p := ⟨w.heap.size, 0, none⟩) (Nat.le_refl _) _).setCell (p := ⟨w.heap.size, 1, none⟩) (Nat.le_refl _) _⟩

theorem dparse_any (N : Int) (S : Nat) (s : ByteArray) (w : World) (h : RightD N S) (hS : S ≤ 3) (hs : s.data.toList = txD (decide (N < 0)) N.natAbs S) (hp : PowAt w) : Calls Tryz.prog 70 #[.string s] w fun e w' => e = .returned (.tuple #[.agg #[.int .i64 N, .int .i64 S], .bool true]) ∧ RowKit.Below w.heap.size w w' := by
  by_cases hn : N < 0
  · have hd : decide (N < 0) = true := by simp [hn]
    obtain ⟨n, rfl⟩ : ∃ n : Nat, N = -(n : Int) := ⟨N.natAbs, by omega⟩
    have e1 : (-(n : Int)).natAbs = n := by omega
    rw [hd, e1] at hs
    exact dparse_true S n s w h hS hs (by rw [hd, e1]) hp
  · have hd : decide (N < 0) = false := by simp [hn]
    obtain ⟨n, rfl⟩ : ∃ n : Nat, N = (n : Int) := ⟨N.natAbs, by omega⟩
    have e1 : ((n : Int)).natAbs = n := by omega
    rw [hd, e1] at hs
    exact dparse_false S n s w h hS hs (by rw [hd, e1]) hp
end Go.EvProp
