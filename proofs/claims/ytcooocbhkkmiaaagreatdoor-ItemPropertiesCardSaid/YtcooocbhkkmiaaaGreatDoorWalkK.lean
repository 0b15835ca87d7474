/-
  Sizes and making of decimals in the program.
-/
import Derived.Test.YtcooocbhkkmiaaaGreatDoorWalkJ
import Derived.Test.YtcooocbhkkmiaaaGreatDoorLay
import Derived.Lib.AppendIntMem
import Derived.Lib.Walk
set_option linter.all false
namespace Go.EvProp
open Go Go.Proofs Go.RowKit Go.Lib Go.Sort
set_option maxRecDepth 100000

/-- The table of powers of ten of the library. -/
def PowAt (w : World) : Prop := ∃ fz, w.heap[1]? = some (.cells (pow10Tab.map fun z => Value.int .u64 z).toArray 290 fz)
theorem PowAt.below {w w' : World} (h : PowAt w) (hb : Below w.heap.size w w') : PowAt w' := by
  obtain ⟨fz, h⟩ := h
  exact ⟨fz, (hb.block 1 (Array.getElem?_eq_some_iff.1 h).1).trans h⟩
theorem powTab (w : World) (h : PowAt w) (name : String) (hn : Tryz.prog.globalNamed name = some 1) : TabIs Tryz.prog w name .u64 pow10Tab := by
  obtain ⟨fz, h⟩ := h
  unfold TabIs World.var?
  rw [hn]
  simp [h]

theorem small_any (i : Nat) (h : i < 100) (w : World) : Calls Tryz.prog 225 #[.int .i64 i] w fun e w' => e = .returned (.string ⟨(decDigits i).toArray⟩) ∧ w' = w := Any.internal_strconv_small Tryz.lays283 i h w
theorem numDigits_any (u : Nat) (h1 : 1 ≤ u) (h2 : u < 18446744073709551616) (w : World) (hp : PowAt w) : Calls Tryz.prog 226 #[.int .u64 u] w fun e w' => e = .returned (.int .i64 (nDigits u)) ∧ w' = w := Any.internal_strconv_numDigits Tryz.laysM284 u h1 h2 w (powTab w hp _ (by kernel_rfl))
theorem formatBase_any (blk off cap : Nat) (u : Nat) (d : Array UInt8) (w : World) (hH : Holds (fun (b : UInt8) => Value.int .u8 (b.toNat : Int)) w blk off d) (hu : u < 10 ^ d.size) (hu64 : u < 18446744073709551616) (hsz : d.size < 4611686018427387904) :
    Calls Tryz.prog 227 #[.slice (some ⟨blk, off, none⟩) d.size cap, .int .u64 u] w fun e w' => e = .returned (.tuple #[]) ∧ ∃ (n v' : Nat) (dk : Array UInt8), w' = (putRow (fun (b : UInt8) => Value.int .u8 (b.toNat : Int)) w blk off dk).drewN n ∧ FmtInv d.size u 0 v' dk := Any.internal_strconv_formatBase10 Tryz.lays285 blk off cap u d w hH hu hu64 hsz

set_option maxHeartbeats 2000000 in
theorem formatUint_in (u : Nat) (w : World) (hu : u ≤ 1000000000000000) (hp : PowAt w) : Calls Tryz.prog 229 #[.int .u64 u, .int .i64 10] w fun e w' => RetTx (decDigits u) e ∧ RowKit.Below w.heap.size w w' := by
  by_cases hs : u < 100
  · have C1 := Lib.hid fun w => small_any u hs w
    have i1 : (u : Int) < 100 := by omega
    go_enter Tryz.func229, Tryz.ntmps229
    go_wp2_with (go_at_call 225; (with_reducible refine (C1.out _).mono ?_); rintro e w1 ⟨rfl, rfl⟩)
    go_ret
    exact ⟨⟨_, rfl, rfl⟩, Below.refl _ _⟩
  · have hu1 : 1 ≤ u := by omega
    have hu64 : u < 18446744073709551616 := by omega
    have i1 : ¬ (u : Int) < 100 := by omega
    have hnd20 : nDigits u ≤ 20 := by have := numDigits_eq u hu1 hu64; split at this <;> omega
    have hal : Tryz.prog.arrayLen 259 = 24 := by kernel_rfl
    have hsl1 : ∀ W, (Instr.sliceAt 259 (.pointer (some ⟨w.heap.size, 0, none⟩)) none (some (.int .i64 (nDigits u : Int))) none).run Tryz.prog W = .ok (.slice (some ⟨w.heap.size, 0, none⟩) (nDigits u) 24) W := fun W => by
      rw [run_sliceAt_array_h W 259 ⟨w.heap.size, 0, none⟩ (by kernel_rfl) .i64 (nDigits u : Int) (by omega) (by rw [hal]; omega)]
      go_simp
    have hH0 := holds_zero0 w 259 (nDigits u) (by omega)
    have hfmt := formatBase_any w.heap.size 0 24 u (Array.replicate (nDigits u) 0) (w.alloc (.cells zeros24 259)) hH0 (by rw [Array.size_replicate]; exact lt_pow_nDigits u) hu64 (by rw [Array.size_replicate]; omega)
    rw [Array.size_replicate] at hfmt
    have HH0 := Lib.hid hH0
    have HF := Lib.hid hfmt
    have HP := Lib.hid (hp.below ((Below.refl _ w).alloc (Nat.le_refl _) (.cells zeros24 259)))
    clear hH0 hal hfmt hp
    go_enter Tryz.func229, Tryz.ntmps229
    go_wp2_with (first
      | (go_at_call 226; refine (numDigits_any u hu1 hu64 _ HP.out).mono ?_; rintro e w' ⟨rfl, rfl⟩))
    refine HF.out.mono ?_
    rintro e w' ⟨rfl, k, v', dk, rfl, hF⟩
    have hcv : (convert 87 9 (.slice (some ⟨w.heap.size, 0, none⟩) (nDigits u) 24)).run Tryz.prog ((putRow (fun (b : UInt8) => Value.int .u8 (b.toNat : Int)) (w.alloc (.cells zeros24 259)) w.heap.size 0 dk).drewN k) = .ok (.string ⟨(decDigits u).toArray⟩) ((putRow (fun (b : UInt8) => Value.int .u8 (b.toNat : Int)) (w.alloc (.cells zeros24 259)) w.heap.size 0 dk).drewN k) := by
      have h := run_convert_bytes_back (P := Tryz.prog) ((putRow (fun (b : UInt8) => Value.int .u8 (b.toNat : Int)) (w.alloc (.cells zeros24 259)) w.heap.size 0 dk).drewN k) 87 9 5 ⟨w.heap.size, 0, none⟩ 24 (decDigits u) Tryz.underlying87 Tryz.underlying5 Tryz.underlying9 (fun j hj => by
        rw [row_is_numeral hF j hj, add_plain, World.cell?_drewN]
        exact cell?_putRow (fun (b : UInt8) => Value.int .u8 (b.toNat : Int)) _ w.heap.size 0 _ dk HH0.out (by rw [hF.size, Array.size_replicate]) j (by rw [hF.size]; rw [decDigits_length] at hj; exact hj))
      rw [decDigits_length] at h
      exact h
    obtain ⟨os, eo⟩ := fin_at w (.cells zeros24 259) dk k 0
    have HE := Lib.hid eo
    clear eo HF HH0 HP
    go_wp2
    go_ret
    refine ⟨⟨_, rfl, rfl⟩, ?_⟩
    rw [HE.out]
    exact Lib.below_grow _ w (Nat.le_refl _) k os

set_option maxHeartbeats 1000000 in
theorem formatUint_any (u : Nat) (w : World) (hu : u ≤ 1000000000000000) (hp : PowAt w) : Calls Tryz.prog 165 #[.int .u64 u, .int .i64 10] w fun e w' => RetTx (decDigits u) e ∧ RowKit.Below w.heap.size w w' := by
  have C1 := Lib.hid fun w hp => formatUint_in u w hu hp
  have HP := Lib.hid hp
  clear hp
  go_enter Tryz.func165, Tryz.ntmps165
  go_wp2_with (go_at_call 229; (with_reducible refine (C1.out _ HP.out).mono ?_); rintro e w1 ⟨⟨t, rfl, ht⟩, hb1⟩)
  go_ret
  exact ⟨⟨_, rfl, ht⟩, hb1⟩

set_option maxHeartbeats 1000000 in
theorem dsize_any (N : Int) (w : World) (h0 : -1000000000000000 ≤ N) (h1 : N ≤ 1000000000000000) : Calls Tryz.prog 166 #[.int .i64 N] w fun e w' => e = .returned (.int .u64 (N.natAbs : Int)) ∧ w = w' := by
  by_cases hn : N < 0
  · have e1 : IntKind.u64.wrap (-N) = (N.natAbs : Int) := by rw [IntKind.wrap_u64]; omega
    go_enter Tryz.func166, Tryz.ntmps166
    go_wp2
    go_ret
    refine ⟨?_, rfl⟩
    first | (rw [← e1]; rfl) | (simp; omega)
  · have e1 : IntKind.u64.wrap N = (N.natAbs : Int) := by rw [IntKind.wrap_u64]; omega
    go_enter Tryz.func166, Tryz.ntmps166
    go_wp2
    go_ret
    refine ⟨?_, rfl⟩
    first | (rw [← e1]; rfl) | (simp; omega)

set_option maxHeartbeats 2000000 in
theorem dmake_any (N : Int) (S : Nat) (w : World) (h : RightD N S) (hS : S ≤ 3) : Calls Tryz.prog 138 #[.int .i64 N, .int .i64 S] w fun e w' => e = .returned (.tuple #[.agg #[.int .i64 N, .int .i64 S], .bool true]) ∧ RowKit.Below w.heap.size w w' := by
  obtain ⟨h1, h2, h3, h4, h5⟩ := h
  have C1 := Lib.hid fun w => within_yes N w h3 h4
  have i0 : ¬ (18 : Int) < (S : Int) := by omega
  have i1 : ¬ (6 : Int) < (S : Int) := by omega
  have i2 : ¬ (S : Int) < 0 := by omega
  by_cases hS0 : S = 0
  · subst hS0
    clear h5
    go_enter Tryz.func138, Tryz.ntmps138
    go_wp2
    refine wp_loop_rounds 1 ?_
    rw [rounds_succ]
    go_wp2_with (go_at_call 133; (with_reducible refine (C1.out _).mono ?_); rintro e w1 ⟨rfl, rfl⟩)
    refine bodyPost_ret (by simp [results, Tryz.results138, go_sem]; rfl) rfl ?_
    refine ⟨rfl, ?_⟩
    first | exact (RowKit.Below.refl _ _).alloc (Nat.le_refl _) _ | exact (((RowKit.Below.refl _ _).alloc (Nat.le_refl _) _).setCell (Nat.le_refl _) _).setCell (Nat.le_refl _) _
  · have hm : N.tmod 10 ≠ 0 := by
      rcases h5 with h5 | h5
      · exact absurd h5 (by omega)
      · exact h5
    have q1 : (0 : Int) < (S : Int) := by omega
    have q2 : (N.tmod 10 == 0) = false := by simpa using hm
    clear h5
    go_enter Tryz.func138, Tryz.ntmps138
    go_wp2
    refine wp_loop_rounds 1 ?_
    rw [rounds_succ]
    go_wp2_with (go_at_call 133; (with_reducible refine (C1.out _).mono ?_); rintro e w1 ⟨rfl, rfl⟩)
    refine bodyPost_ret (by simp [results, Tryz.results138, go_sem]; rfl) rfl ?_
    refine ⟨rfl, ?_⟩
    first | exact (RowKit.Below.refl _ _).alloc (Nat.le_refl _) _ | exact (((RowKit.Below.refl _ _).alloc (Nat.le_refl _) _).setCell (Nat.le_refl _) _).setCell (Nat.le_refl _) _
end Go.EvProp
