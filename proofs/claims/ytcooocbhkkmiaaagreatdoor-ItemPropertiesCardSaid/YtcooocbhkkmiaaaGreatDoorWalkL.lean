/-
  The text of a decimal in the program.
-/
import Derived.Test.YtcooocbhkkmiaaaGreatDoorWalkK
import Derived.Test.YtcooocbhkkmiaaaGreatDoorPlain
set_option linter.all false
namespace Go.EvProp
open Go Go.Proofs Go.RowKit Go.Lib
set_option maxRecDepth 100000

theorem zero_cat (k : Nat) (t : ByteArray) (l : List UInt8) (h : t.data.toList = List.replicate k 48 ++ l) : ((⟨#[48]⟩ : ByteArray) ++ t).data.toList = List.replicate (k + 1) 48 ++ l := by
  rw [cat_data, h, List.replicate_succ]
  rfl
theorem extract_take (t : ByteArray) (k : Nat) : (t.extract 0 k).data.toList = t.data.toList.take k := by
  simp [ByteArray.data_extract]

set_option maxHeartbeats 2000000 in
theorem dtext_true_pos (N : Int) (S : Nat) (w : World) (h : RightD N S) (hS0 : 0 < S) (hS : S ≤ 3) (n : Nat) (hn : n = N.natAbs) (hneg : N < 0) (hp : PowAt w) : Calls Tryz.prog 100 #[.agg #[.int .i64 N, .int .i64 S]] w fun e w' => RetTx (txD true n S) e ∧ RowKit.Below w.heap.size w w' := by
  have hn1 : n ≤ 1000000000000000 := by have := h.2.2; omega
  have C1 : Hid (∀ w, Calls Tryz.prog 164 #[.agg #[.int .i64 N, .int .i64 S]] w fun e w' => e = .returned (.agg #[.int .i64 N, .int .i64 S]) ∧ RowKit.Below w.heap.size w w') := fun w => dvalue_yes N S w h
  have C2 : Hid (∀ w, Calls Tryz.prog 166 #[.int .i64 N] w fun e w' => e = .returned (.int .u64 (n : Int)) ∧ w = w') := fun w => by rw [hn]; exact dsize_any N w (by have := h.2.2; omega) (by have := h.2.2; omega)
  have C3 := Lib.hid fun w hp => formatUint_any n w hn1 hp
  have B0 := Lib.hid ((RowKit.Below.refl w.heap.size w).alloc (Nat.le_refl _) (.cells #[.int .i64 N, .int .i64 S] 39 (0, 0)))
  have hx0 := Lib.hid (heapNew w (.cells #[.int .i64 N, .int .i64 S] 39 (0, 0)))
  have HP := Lib.hid hp
  have HPAD := Lib.hid (pad_eq S n)
  have hdl := dec_pos n
  have hdl2 := Lib.hid (decLen n hn1)
  obtain ⟨L, hL⟩ : ∃ L, Hid (L = (decDigits n).length) := ⟨_, Lib.hid rfl⟩
  rw [← hL.out] at hdl HPAD hdl2
  have hdl2 := hdl2.out
  clear h hp hn
  go_enter Tryz.func100, Tryz.ntmps100
  go_wp2_with (first
    | (have _ := x1; go_at_call 165; (with_reducible refine (C3.out _ (HP.out.below B1.out)).mono ?_); rintro e w3 ⟨⟨t3, rfl, ht3⟩, hb3⟩; have x3 := (hb3.block _ (Array.getElem?_eq_some_iff.1 x1).1).trans x1; have B3 := Lib.hid (B1.out.trans (hb3.mono B1.out.size)); have q0 := cellOf (i := 0) x3 rfl; have q1 := cellOf (i := 1) x3 rfl; have hz3 : t3.size = L := (by rw [hL.out, ← ht3, Array.length_toList]; rfl))
    | (have _ := x1; go_at_call 166; (with_reducible refine (C2.out _).mono ?_); rintro e w2 ⟨rfl, rfl⟩)
    | (go_at_call 164; (with_reducible refine (C1.out _).mono ?_); rintro e w1' ⟨rfl, hb1⟩; have B1' := Lib.hid (B0.out.trans (hb1.mono (by simp))); have hx1 := (hb1.block _ (by simp)).trans hx0.out; have p0 := cellOf (i := 0) hx1 rfl; have p1 := cellOf (i := 1) hx1 rfl; have z0 := frozenOf (i := 0) hx1; have z1 := frozenOf (i := 1) hx1; have x1 : ((w1'.setCell ⟨w.heap.size, 0, none⟩ (.int .i64 N)).setCell ⟨w.heap.size, 1, none⟩ (.int .i64 S)).heap[w.heap.size]? = some (.cells #[.int .i64 N, .int .i64 S] 39 (0, 0)) := (by simp [World.setCell, Array.getElem?_modify, hx1]); have B1 := Lib.hid ((B1'.out.setCell (p := ⟨w.heap.size, 0, none⟩) (Nat.le_refl _) (.int .i64 N)).setCell (p := ⟨w.heap.size, 1, none⟩) (Nat.le_refl _) (.int .i64 S)); have y0 := cellOf (i := 0) x1 rfl; have y1 := cellOf (i := 1) x1 rfl))
  clear C1 C2 C3 HP B0 hx0 x1 B1 y0 y1 p0 p1 z0 z1 hb1 hx1 hb3
  have HX3 := Lib.hid x3
  clear x3
  have H3 := Lib.hid ht3
  clear ht3
  go_loop [3, 17] (fun d k => ∃ (j : Nat) (t : ByteArray), k = .int .i64 j ∧ d = .string t ∧ Hid (t.data.toList = List.replicate j 48 ++ decDigits n) ∧ (j : Int) ≤ S + 1 ∧ (j = 0 ∨ (j : Int) ≤ S + 1 - L)) (fun _ k => (S + 1 - RowKit.intOf k).toNat)
  case atStart => exact ⟨0, t3, rfl, rfl, Lib.hid (by simpa using H3.out), by omega, .inl rfl⟩
  case round =>
    obtain ⟨j, t, rfl, rfl, hT, hj, hj2⟩ := hrel
    have hts : t.size = j + L := by
      have : t.data.toList.length = j + L := by rw [hT.out, List.length_append, List.length_replicate, hL.out]
      rw [Array.length_toList] at this
      exact this

    by_cases hlt : (j : Int) < S + 1 - L
    · go_wp2
      go_round
      case rel => exact ⟨j + 1, _, by go_num, rfl, Lib.hid (zero_cat j t _ hT.out), by omega, .inr (by omega)⟩
      case measure => simp [RowKit.intOf]; omega
    · have hjj : j = S + 1 - L := by omega
      have hE := hT.out
      rw [hjj, HPAD.out] at hE
      have HE := Lib.hid hE
      have hsz2 : t.size = (decDigits (n / 10 ^ S)).length + S := by
        have : t.data.toList.length = (decDigits (n / 10 ^ S)).length + S := by rw [hE, List.length_append, fr_len]
        rw [Array.length_toList] at this
        exact this
      obtain ⟨P, hP⟩ : ∃ P : Nat, P = (decDigits (n / 10 ^ S)).length := ⟨_, rfl⟩
      have HPP := Lib.hid hP
      rw [← hP] at hsz2
      have hS0' : (0 : Int) < (S : Int) := by omega
      have hle0 : (t.size : Int) - (S : Int) = (P : Int) := by omega
      have hle2 : P ≤ t.size := by omega
      have hle4 : t.size ≤ 2000000000000000 := by omega
      have e1 : Hid ((t.extract 0 P).data.toList = decDigits (n / 10 ^ S)) := by
        show (t.extract 0 P).data.toList = _
        rw [extract_take, hE, hP, List.take_append_of_le_length (Nat.le_refl _), List.take_length]
      have e2 : Hid ((t.extract P t.size).data.toList = fr S n) := by
        show (t.extract P t.size).data.toList = _
        rw [Lib.extract_to_end, hE, hP, List.drop_append_of_le_length (Nat.le_refl _), List.drop_length, List.nil_append]
      have z1 : (t.extract 0 P).size ≤ 2000000000000000 := by simp; omega
      have z2 : (t.extract P t.size).size ≤ 2000000000000000 := by simp; omega
      clear hE hT hjj hz3 hj2 hts hsz2 hP
      go_wp2
      go_quiet (fail)
      go_wp2
      go_ret
      refine ⟨⟨_, rfl, ?_⟩, ?_⟩
      · rw [txD_body]
        unfold body
        rw [if_pos hS0]
        simp only [cat_data, e1.out, e2.out]
        simp
      · first | exact B3.out | exact B3.out.drew | exact ⟨B3.out.os, B3.out.tape, B3.out.output, B3.out.size, B3.out.block⟩

set_option maxHeartbeats 2000000 in
theorem dtext_true_zero (N : Int) (w : World) (h : RightD N ((0 : Nat) : Int))  (n : Nat) (hn : n = N.natAbs) (hneg : N < 0) (hp : PowAt w) : Calls Tryz.prog 100 #[.agg #[.int .i64 N, .int .i64 0]] w fun e w' => RetTx (txD true n 0) e ∧ RowKit.Below w.heap.size w w' := by
  have hn1 : n ≤ 1000000000000000 := by have := h.2.2; omega
  have C1 : Hid (∀ w, Calls Tryz.prog 164 #[.agg #[.int .i64 N, .int .i64 0]] w fun e w' => e = .returned (.agg #[.int .i64 N, .int .i64 0]) ∧ RowKit.Below w.heap.size w w') := fun w => dvalue_yes N 0 w h
  have C2 : Hid (∀ w, Calls Tryz.prog 166 #[.int .i64 N] w fun e w' => e = .returned (.int .u64 (n : Int)) ∧ w = w') := fun w => by rw [hn]; exact dsize_any N w (by have := h.2.2; omega) (by have := h.2.2; omega)
  have C3 := Lib.hid fun w hp => formatUint_any n w hn1 hp
  have B0 := Lib.hid ((RowKit.Below.refl w.heap.size w).alloc (Nat.le_refl _) (.cells #[.int .i64 N, .int .i64 0] 39 (0, 0)))
  have hx0 := Lib.hid (heapNew w (.cells #[.int .i64 N, .int .i64 0] 39 (0, 0)))
  have HP := Lib.hid hp
  have HPAD := Lib.hid (pad_eq 0 n)
  have hdl := dec_pos n
  have hdl2 := Lib.hid (decLen n hn1)
  obtain ⟨L, hL⟩ : ∃ L, Hid (L = (decDigits n).length) := ⟨_, Lib.hid rfl⟩
  rw [← hL.out] at hdl HPAD hdl2
  have hdl2 := hdl2.out
  clear h hp hn
  go_enter Tryz.func100, Tryz.ntmps100
  go_wp2_with (first
    | (have _ := x1; go_at_call 165; (with_reducible refine (C3.out _ (HP.out.below B1.out)).mono ?_); rintro e w3 ⟨⟨t3, rfl, ht3⟩, hb3⟩; have x3 := (hb3.block _ (Array.getElem?_eq_some_iff.1 x1).1).trans x1; have B3 := Lib.hid (B1.out.trans (hb3.mono B1.out.size)); have q0 := cellOf (i := 0) x3 rfl; have q1 := cellOf (i := 1) x3 rfl; have hz3 : t3.size = L := (by rw [hL.out, ← ht3, Array.length_toList]; rfl))
    | (have _ := x1; go_at_call 166; (with_reducible refine (C2.out _).mono ?_); rintro e w2 ⟨rfl, rfl⟩)
    | (go_at_call 164; (with_reducible refine (C1.out _).mono ?_); rintro e w1' ⟨rfl, hb1⟩; have B1' := Lib.hid (B0.out.trans (hb1.mono (by simp))); have hx1 := (hb1.block _ (by simp)).trans hx0.out; have p0 := cellOf (i := 0) hx1 rfl; have p1 := cellOf (i := 1) hx1 rfl; have z0 := frozenOf (i := 0) hx1; have z1 := frozenOf (i := 1) hx1; have x1 : ((w1'.setCell ⟨w.heap.size, 0, none⟩ (.int .i64 N)).setCell ⟨w.heap.size, 1, none⟩ (.int .i64 0)).heap[w.heap.size]? = some (.cells #[.int .i64 N, .int .i64 0] 39 (0, 0)) := (by simp [World.setCell, Array.getElem?_modify, hx1]); have B1 := Lib.hid ((B1'.out.setCell (p := ⟨w.heap.size, 0, none⟩) (Nat.le_refl _) (.int .i64 N)).setCell (p := ⟨w.heap.size, 1, none⟩) (Nat.le_refl _) (.int .i64 0)); have y0 := cellOf (i := 0) x1 rfl; have y1 := cellOf (i := 1) x1 rfl))
  clear C1 C2 C3 HP B0 hx0 x1 B1 y0 y1 p0 p1 z0 z1 hb1 hx1 hb3
  have HX3 := Lib.hid x3
  clear x3
  have H3 := Lib.hid ht3
  clear ht3
  go_loop [3, 17] (fun d k => ∃ (j : Nat) (t : ByteArray), k = .int .i64 j ∧ d = .string t ∧ Hid (t.data.toList = List.replicate j 48 ++ decDigits n) ∧ (j : Int) ≤ 0 + 1 ∧ (j = 0 ∨ (j : Int) ≤ 0 + 1 - L)) (fun _ k => (0 + 1 - RowKit.intOf k).toNat)
  case atStart => exact ⟨0, t3, rfl, rfl, Lib.hid (by simpa using H3.out), by omega, .inl rfl⟩
  case round =>
    obtain ⟨j, t, rfl, rfl, hT, hj, hj2⟩ := hrel
    have hts : t.size = j + L := by
      have : t.data.toList.length = j + L := by rw [hT.out, List.length_append, List.length_replicate, hL.out]
      rw [Array.length_toList] at this
      exact this

    have hj0 : j = 0 := by omega
    subst hj0
    have hlt : ¬ (0 : Int) < 1 - L := by omega
    have hE := hT.out
    have HE := Lib.hid hE
    clear hE hT hj2
    go_wp2
    go_ret
    refine ⟨⟨_, rfl, ?_⟩, B3.out⟩
    rw [txD_body]
    unfold body
    simp only [Nat.pow_zero, Nat.div_one]
    first | (rw [cat_data, HE.out]; simp) | (rw [HE.out]; simp)

set_option maxHeartbeats 2000000 in
theorem dtext_false_pos (N : Int) (S : Nat) (w : World) (h : RightD N S) (hS0 : 0 < S) (hS : S ≤ 3) (n : Nat) (hn : n = N.natAbs) (hneg : ¬ N < 0) (hp : PowAt w) : Calls Tryz.prog 100 #[.agg #[.int .i64 N, .int .i64 S]] w fun e w' => RetTx (txD false n S) e ∧ RowKit.Below w.heap.size w w' := by
  have hn1 : n ≤ 1000000000000000 := by have := h.2.2; omega
  have C1 : Hid (∀ w, Calls Tryz.prog 164 #[.agg #[.int .i64 N, .int .i64 S]] w fun e w' => e = .returned (.agg #[.int .i64 N, .int .i64 S]) ∧ RowKit.Below w.heap.size w w') := fun w => dvalue_yes N S w h
  have C2 : Hid (∀ w, Calls Tryz.prog 166 #[.int .i64 N] w fun e w' => e = .returned (.int .u64 (n : Int)) ∧ w = w') := fun w => by rw [hn]; exact dsize_any N w (by have := h.2.2; omega) (by have := h.2.2; omega)
  have C3 := Lib.hid fun w hp => formatUint_any n w hn1 hp
  have B0 := Lib.hid ((RowKit.Below.refl w.heap.size w).alloc (Nat.le_refl _) (.cells #[.int .i64 N, .int .i64 S] 39 (0, 0)))
  have hx0 := Lib.hid (heapNew w (.cells #[.int .i64 N, .int .i64 S] 39 (0, 0)))
  have HP := Lib.hid hp
  have HPAD := Lib.hid (pad_eq S n)
  have hdl := dec_pos n
  have hdl2 := Lib.hid (decLen n hn1)
  obtain ⟨L, hL⟩ : ∃ L, Hid (L = (decDigits n).length) := ⟨_, Lib.hid rfl⟩
  rw [← hL.out] at hdl HPAD hdl2
  have hdl2 := hdl2.out
  clear h hp hn
  go_enter Tryz.func100, Tryz.ntmps100
  go_wp2_with (first
    | (have _ := x1; go_at_call 165; (with_reducible refine (C3.out _ (HP.out.below B1.out)).mono ?_); rintro e w3 ⟨⟨t3, rfl, ht3⟩, hb3⟩; have x3 := (hb3.block _ (Array.getElem?_eq_some_iff.1 x1).1).trans x1; have B3 := Lib.hid (B1.out.trans (hb3.mono B1.out.size)); have q0 := cellOf (i := 0) x3 rfl; have q1 := cellOf (i := 1) x3 rfl; have hz3 : t3.size = L := (by rw [hL.out, ← ht3, Array.length_toList]; rfl))
    | (have _ := x1; go_at_call 166; (with_reducible refine (C2.out _).mono ?_); rintro e w2 ⟨rfl, rfl⟩)
    | (go_at_call 164; (with_reducible refine (C1.out _).mono ?_); rintro e w1' ⟨rfl, hb1⟩; have B1' := Lib.hid (B0.out.trans (hb1.mono (by simp))); have hx1 := (hb1.block _ (by simp)).trans hx0.out; have p0 := cellOf (i := 0) hx1 rfl; have p1 := cellOf (i := 1) hx1 rfl; have z0 := frozenOf (i := 0) hx1; have z1 := frozenOf (i := 1) hx1; have x1 : ((w1'.setCell ⟨w.heap.size, 0, none⟩ (.int .i64 N)).setCell ⟨w.heap.size, 1, none⟩ (.int .i64 S)).heap[w.heap.size]? = some (.cells #[.int .i64 N, .int .i64 S] 39 (0, 0)) := (by simp [World.setCell, Array.getElem?_modify, hx1]); have B1 := Lib.hid ((B1'.out.setCell (p := ⟨w.heap.size, 0, none⟩) (Nat.le_refl _) (.int .i64 N)).setCell (p := ⟨w.heap.size, 1, none⟩) (Nat.le_refl _) (.int .i64 S)); have y0 := cellOf (i := 0) x1 rfl; have y1 := cellOf (i := 1) x1 rfl))
  clear C1 C2 C3 HP B0 hx0 x1 B1 y0 y1 p0 p1 z0 z1 hb1 hx1 hb3
  have HX3 := Lib.hid x3
  clear x3
  have H3 := Lib.hid ht3
  clear ht3
  go_loop [3, 17] (fun d k => ∃ (j : Nat) (t : ByteArray), k = .int .i64 j ∧ d = .string t ∧ Hid (t.data.toList = List.replicate j 48 ++ decDigits n) ∧ (j : Int) ≤ S + 1 ∧ (j = 0 ∨ (j : Int) ≤ S + 1 - L)) (fun _ k => (S + 1 - RowKit.intOf k).toNat)
  case atStart => exact ⟨0, t3, rfl, rfl, Lib.hid (by simpa using H3.out), by omega, .inl rfl⟩
  case round =>
    obtain ⟨j, t, rfl, rfl, hT, hj, hj2⟩ := hrel
    have hts : t.size = j + L := by
      have : t.data.toList.length = j + L := by rw [hT.out, List.length_append, List.length_replicate, hL.out]
      rw [Array.length_toList] at this
      exact this

    by_cases hlt : (j : Int) < S + 1 - L
    · go_wp2
      go_round
      case rel => exact ⟨j + 1, _, by go_num, rfl, Lib.hid (zero_cat j t _ hT.out), by omega, .inr (by omega)⟩
      case measure => simp [RowKit.intOf]; omega
    · have hjj : j = S + 1 - L := by omega
      have hE := hT.out
      rw [hjj, HPAD.out] at hE
      have HE := Lib.hid hE
      have hsz2 : t.size = (decDigits (n / 10 ^ S)).length + S := by
        have : t.data.toList.length = (decDigits (n / 10 ^ S)).length + S := by rw [hE, List.length_append, fr_len]
        rw [Array.length_toList] at this
        exact this
      obtain ⟨P, hP⟩ : ∃ P : Nat, P = (decDigits (n / 10 ^ S)).length := ⟨_, rfl⟩
      have HPP := Lib.hid hP
      rw [← hP] at hsz2
      have hS0' : (0 : Int) < (S : Int) := by omega
      have hle0 : (t.size : Int) - (S : Int) = (P : Int) := by omega
      have hle2 : P ≤ t.size := by omega
      have hle4 : t.size ≤ 2000000000000000 := by omega
      have e1 : Hid ((t.extract 0 P).data.toList = decDigits (n / 10 ^ S)) := by
        show (t.extract 0 P).data.toList = _
        rw [extract_take, hE, hP, List.take_append_of_le_length (Nat.le_refl _), List.take_length]
      have e2 : Hid ((t.extract P t.size).data.toList = fr S n) := by
        show (t.extract P t.size).data.toList = _
        rw [Lib.extract_to_end, hE, hP, List.drop_append_of_le_length (Nat.le_refl _), List.drop_length, List.nil_append]
      have z1 : (t.extract 0 P).size ≤ 2000000000000000 := by simp; omega
      have z2 : (t.extract P t.size).size ≤ 2000000000000000 := by simp; omega
      clear hE hT hjj hz3 hj2 hts hsz2 hP
      go_wp2
      go_quiet (fail)
      go_wp2
      go_ret
      refine ⟨⟨_, rfl, ?_⟩, ?_⟩
      · rw [txD_body]
        unfold body
        rw [if_pos hS0]
        simp only [cat_data, e1.out, e2.out]
        simp
      · first | exact B3.out | exact B3.out.drew | exact ⟨B3.out.os, B3.out.tape, B3.out.output, B3.out.size, B3.out.block⟩

set_option maxHeartbeats 2000000 in
theorem dtext_false_zero (N : Int) (w : World) (h : RightD N ((0 : Nat) : Int))  (n : Nat) (hn : n = N.natAbs) (hneg : ¬ N < 0) (hp : PowAt w) : Calls Tryz.prog 100 #[.agg #[.int .i64 N, .int .i64 0]] w fun e w' => RetTx (txD false n 0) e ∧ RowKit.Below w.heap.size w w' := by
  have hn1 : n ≤ 1000000000000000 := by have := h.2.2; omega
  have C1 : Hid (∀ w, Calls Tryz.prog 164 #[.agg #[.int .i64 N, .int .i64 0]] w fun e w' => e = .returned (.agg #[.int .i64 N, .int .i64 0]) ∧ RowKit.Below w.heap.size w w') := fun w => dvalue_yes N 0 w h
  have C2 : Hid (∀ w, Calls Tryz.prog 166 #[.int .i64 N] w fun e w' => e = .returned (.int .u64 (n : Int)) ∧ w = w') := fun w => by rw [hn]; exact dsize_any N w (by have := h.2.2; omega) (by have := h.2.2; omega)
  have C3 := Lib.hid fun w hp => formatUint_any n w hn1 hp
  have B0 := Lib.hid ((RowKit.Below.refl w.heap.size w).alloc (Nat.le_refl _) (.cells #[.int .i64 N, .int .i64 0] 39 (0, 0)))
  have hx0 := Lib.hid (heapNew w (.cells #[.int .i64 N, .int .i64 0] 39 (0, 0)))
  have HP := Lib.hid hp
  have HPAD := Lib.hid (pad_eq 0 n)
  have hdl := dec_pos n
  have hdl2 := Lib.hid (decLen n hn1)
  obtain ⟨L, hL⟩ : ∃ L, Hid (L = (decDigits n).length) := ⟨_, Lib.hid rfl⟩
  rw [← hL.out] at hdl HPAD hdl2
  have hdl2 := hdl2.out
  clear h hp hn
  go_enter Tryz.func100, Tryz.ntmps100
  go_wp2_with (first
    | (have _ := x1; go_at_call 165; (with_reducible refine (C3.out _ (HP.out.below B1.out)).mono ?_); rintro e w3 ⟨⟨t3, rfl, ht3⟩, hb3⟩; have x3 := (hb3.block _ (Array.getElem?_eq_some_iff.1 x1).1).trans x1; have B3 := Lib.hid (B1.out.trans (hb3.mono B1.out.size)); have q0 := cellOf (i := 0) x3 rfl; have q1 := cellOf (i := 1) x3 rfl; have hz3 : t3.size = L := (by rw [hL.out, ← ht3, Array.length_toList]; rfl))
    | (have _ := x1; go_at_call 166; (with_reducible refine (C2.out _).mono ?_); rintro e w2 ⟨rfl, rfl⟩)
    | (go_at_call 164; (with_reducible refine (C1.out _).mono ?_); rintro e w1' ⟨rfl, hb1⟩; have B1' := Lib.hid (B0.out.trans (hb1.mono (by simp))); have hx1 := (hb1.block _ (by simp)).trans hx0.out; have p0 := cellOf (i := 0) hx1 rfl; have p1 := cellOf (i := 1) hx1 rfl; have z0 := frozenOf (i := 0) hx1; have z1 := frozenOf (i := 1) hx1; have x1 : ((w1'.setCell ⟨w.heap.size, 0, none⟩ (.int .i64 N)).setCell ⟨w.heap.size, 1, none⟩ (.int .i64 0)).heap[w.heap.size]? = some (.cells #[.int .i64 N, .int .i64 0] 39 (0, 0)) := (by simp [World.setCell, Array.getElem?_modify, hx1]); have B1 := Lib.hid ((B1'.out.setCell (p := ⟨w.heap.size, 0, none⟩) (Nat.le_refl _) (.int .i64 N)).setCell (p := ⟨w.heap.size, 1, none⟩) (Nat.le_refl _) (.int .i64 0)); have y0 := cellOf (i := 0) x1 rfl; have y1 := cellOf (i := 1) x1 rfl))
  clear C1 C2 C3 HP B0 hx0 x1 B1 y0 y1 p0 p1 z0 z1 hb1 hx1 hb3
  have HX3 := Lib.hid x3
  clear x3
  have H3 := Lib.hid ht3
  clear ht3
  go_loop [3, 17] (fun d k => ∃ (j : Nat) (t : ByteArray), k = .int .i64 j ∧ d = .string t ∧ Hid (t.data.toList = List.replicate j 48 ++ decDigits n) ∧ (j : Int) ≤ 0 + 1 ∧ (j = 0 ∨ (j : Int) ≤ 0 + 1 - L)) (fun _ k => (0 + 1 - RowKit.intOf k).toNat)
  case atStart => exact ⟨0, t3, rfl, rfl, Lib.hid (by simpa using H3.out), by omega, .inl rfl⟩
  case round =>
    obtain ⟨j, t, rfl, rfl, hT, hj, hj2⟩ := hrel
    have hts : t.size = j + L := by
      have : t.data.toList.length = j + L := by rw [hT.out, List.length_append, List.length_replicate, hL.out]
      rw [Array.length_toList] at this
      exact this

    have hj0 : j = 0 := by omega
    subst hj0
    have hlt : ¬ (0 : Int) < 1 - L := by omega
    have hE := hT.out
    have HE := Lib.hid hE
    clear hE hT hj2
    go_wp2
    go_ret
    refine ⟨⟨_, rfl, ?_⟩, B3.out⟩
    rw [txD_body]
    unfold body
    simp only [Nat.pow_zero, Nat.div_one]
    first | (rw [cat_data, HE.out]; simp) | (rw [HE.out]; simp)

theorem dtext_any (N : Int) (S : Nat) (w : World) (h : RightD N S) (hS : S ≤ 3) (hp : PowAt w) : Calls Tryz.prog 100 #[.agg #[.int .i64 N, .int .i64 S]] w fun e w' => RetTx (txD (decide (N < 0)) N.natAbs S) e ∧ RowKit.Below w.heap.size w w' := by
  by_cases hn : N < 0
  · have hd : decide (N < 0) = true := by simp [hn]
    rw [hd]
    by_cases h0 : 0 < S
    · exact dtext_true_pos N S w h h0 hS _ rfl hn hp
    · obtain rfl : S = 0 := by omega
      exact dtext_true_zero N w h _ rfl hn hp
  · have hd : decide (N < 0) = false := by simp [hn]
    rw [hd]
    by_cases h0 : 0 < S
    · exact dtext_false_pos N S w h h0 hS _ rfl hn hp
    · obtain rfl : S = 0 := by omega
      exact dtext_false_zero N w h _ rfl hn hp
end Go.EvProp
