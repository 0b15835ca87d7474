/-
  Contracts of functions that PipelineNil comes to, walked: first part.
-/
import Derived.Test.YthbmgkbfmddhnaaGreatDoorProg
import Derived.WalkKit
import Derived.WalkSpells
import Derived.WalkLawsBesides
import Derived.Deep.QuietTactic
import Derived.BigQuiet
import Derived.Lib.Hide
import Derived.Lib.SmallJoins
set_option linter.all false
namespace Go.EvNil
open Go Go.Proofs Go.RowKit

/-- A pipeline that is nil, or was not made by New. -/
def Zp (w : World) (p : Value) : Prop := p = .pointer none ∨ ∃ B, p = .pointer (some ⟨B, 0, none⟩) ∧ w.cell? ⟨B, 8, none⟩ = some (.map none)

/-- The value of the Kind None. -/
abbrev v0 : Value := .agg #[.int .i64 0, .string ⟨#[]⟩, .int .i64 0, .int .i64 0, .int .i64 0, .slice none 0 0, .slice none 0 0]

set_option maxRecDepth 100000 in
set_option maxHeartbeats 400000 in
theorem zero_yes (w : World) (p : Value) (hp : Zp w p) : Calls Tryz.prog 25 #[p] w fun e w' => e = .returned (.bool true) ∧ w = w' := by
  have e1 := fun (w : World) (r : Option Nat) => run_eql_map_nil (P := Tryz.prog) w 32 _ _ r Tryz.underlying32
  rcases hp with rfl | ⟨B, rfl, h⟩
  · go_enter Tryz.func25, Tryz.ntmps25
    go_wp2
    go_ret
    exact ⟨rfl, rfl⟩
  · go_enter Tryz.func25, Tryz.ntmps25
    go_wp2
    go_ret
    exact ⟨rfl, rfl⟩

set_option maxRecDepth 100000 in
set_option maxHeartbeats 400000 in
theorem runs_zero (w : World) (p : Value) (hp : Zp w p) : Calls Tryz.prog 13 #[p] w fun e w' => e = .returned (.int .i64 0) ∧ w = w' := by
  go_enter Tryz.func13, Tryz.ntmps13
  go_wp2_with (go_at_call 25; refine (zero_yes _ _ hp).mono ?_; rintro e w' ⟨rfl, rfl⟩)
  go_ret
  exact ⟨rfl, rfl⟩

set_option maxRecDepth 100000 in
set_option maxHeartbeats 400000 in
theorem keys_zero (w : World) (p : Value) (hp : Zp w p) : Calls Tryz.prog 12 #[p] w fun e w' => e = .returned (.slice none 0 0) ∧ w = w' := by
  go_enter Tryz.func12, Tryz.ntmps12
  go_wp2_with (go_at_call 25; refine (zero_yes _ _ hp).mono ?_; rintro e w' ⟨rfl, rfl⟩)
  go_ret
  exact ⟨rfl, rfl⟩

set_option maxRecDepth 100000 in
set_option maxHeartbeats 400000 in
theorem delete_zero (w : World) (p : Value) (k : Int) (hp : Zp w p) : Calls Tryz.prog 11 #[p, .int .i64 k] w fun e w' => e = .returned (.int .i64 1) ∧ w = w' := by
  go_enter Tryz.func11, Tryz.ntmps11
  go_wp2_with (go_at_call 25; refine (zero_yes _ _ hp).mono ?_; rintro e w' ⟨rfl, rfl⟩)
  go_ret
  exact ⟨rfl, rfl⟩

theorem Zp.alloc {w : World} {p : Value} (h : Zp w p) (o : Obj) : Zp (w.alloc o) p := by
  rcases h with h | ⟨B, h1, h2⟩
  · exact .inl h
  · refine .inr ⟨B, h1, ?_⟩
    have hlt : B < w.heap.size := by
      by_cases e : B < w.heap.size
      · exact e
      · simp [World.cell?, e] at h2
    rw [World.cell?_of_block (w := w) (Below.heap_alloc w o B hlt)]
    exact h2

set_option maxRecDepth 100000 in
set_option maxHeartbeats 400000 in
theorem value_zero (w : World) (p : Value) (k : Int) (hp : Zp w p) : Calls Tryz.prog 10 #[p, .int .i64 k] w fun e w' => e = .returned (.tuple #[v0, .bool false]) ∧ Below w.heap.size w w' := by
  go_enter Tryz.func10, Tryz.ntmps10
  go_wp2_with (go_at_call 25; refine (zero_yes _ _ (hp.alloc _)).mono ?_; rintro e w' ⟨rfl, rfl⟩)
  exact bodyPost_ret (v := .tuple #[v0, .bool false]) (by simp [results, Tryz.results10, go_sem]) rfl ⟨rfl, (Below.refl _ _).alloc (Nat.le_refl _) _⟩

set_option maxRecDepth 100000 in
set_option maxHeartbeats 400000 in
theorem put_zero (w : World) (p : Value) (k : Int) (a : Option Addr) (n c : Nat) (hp : Zp w p) : Calls Tryz.prog 6 #[p, .agg #[.int .i64 k, .slice a n c]] w fun e w' => e = .returned (.tuple #[v0, .int .i64 1]) ∧ Below w.heap.size w w' := by
  go_enter Tryz.func6, Tryz.ntmps6
  go_wp2_with (go_at_call 25; refine (zero_yes _ _ ((hp.alloc _).alloc _)).mono ?_; rintro e w' ⟨rfl, rfl⟩)
  exact bodyPost_ret (v := .tuple #[v0, .int .i64 1]) (by simp [results, Tryz.results6, go_sem]) rfl ⟨rfl, ((Below.refl _ _).alloc (Nat.le_refl _) _).alloc (by simp) _⟩

set_option maxRecDepth 100000 in
set_option maxHeartbeats 400000 in
theorem set_zero (w : World) (p x y z : Value) (hp : Zp w p) : Calls Tryz.prog 8 #[p, .agg #[x, y, z]] w fun e w' => e = .returned (.tuple #[.slice none 0 0, .int .i64 1]) ∧ Below w.heap.size w w' := by
  go_enter Tryz.func8, Tryz.ntmps8
  go_wp2_with (go_at_call 25; refine (zero_yes _ _ (hp.alloc _)).mono ?_; rintro e w' ⟨rfl, rfl⟩)
  go_ret2
  exact ⟨rfl, (Below.refl _ _).alloc (Nat.le_refl _) _⟩

end Go.EvNil

namespace Go.EvNil
open Go Go.Proofs Go.RowKit

/-- A slice of numbers that can be read. -/
def Nums (w : World) (a : Option Addr) (n : Nat) : Prop := n = 0 ∨ ∃ b o, a = some ⟨b, o, none⟩ ∧ ∀ i, i < n → ∃ x : Int, w.cell? ⟨b, o + i, none⟩ = some (.int .i64 x)

theorem rem_bd (x n : Int) (hn : 0 < n) (hb : n ≤ 1000000) : 0 ≤ (wrap64 (x.tmod n + n)).tmod n ∧ (wrap64 (x.tmod n + n)).tmod n < n := by
  have h1 := Int.tmod_lt_of_pos x hn
  have h2 : -n < x.tmod n := by
    have := Int.lt_tmod_of_pos x hn
    omega
  have h3 : wrap64 (x.tmod n + n) = x.tmod n + n := IntWalk.wrap64_in _ ⟨by omega, by omega⟩
  rw [h3]
  exact ⟨Int.tmod_nonneg _ (by omega), Int.tmod_lt_of_pos _ hn⟩

/-- A number from 0 to n - 1 comes back. -/
def RetIn (n : Int) (e : Ending) : Prop := ∃ r : Int, 0 ≤ r ∧ r < n ∧ e = .returned (.int .i64 r)

set_option maxRecDepth 100000 in
set_option maxHeartbeats 400000 in
theorem mod_any (x n : Int) (w : World) (hn : 0 < n) (hb : n ≤ 1000000) : Calls Tryz.prog 38 #[.int .i64 x, .int .i64 n] w fun e w' => RetIn n e ∧ w = w' := by
  have hne : (n == 0) = false := by simp; omega
  have hr := rem_bd x n hn hb
  go_enter Tryz.func38, Tryz.ntmps38
  go_wp2
  go_ret
  exact ⟨⟨_, hr.1, hr.2, rfl⟩, rfl⟩

/-- Numbers that are read one after the other: block b holds the list and the place. -/
def Num (w : World) (b : Nat) (a : Option Addr) (n : Nat) : Prop := ∃ c K : Nat, w.heap[b]? = some (.cells #[.slice a n c, .int .i64 K] 70 (0, 0)) ∧ Nums w a n ∧ (∀ q, a = some q → q.block ≠ b)

/-- What Next does: a number from 0 to n - 1; nothing but the place has turned. -/
def Nexts (w : World) (b : Nat) (a : Option Addr) (len : Nat) (n : Int) (e : Ending) (w' : World) : Prop :=
  RetIn n e ∧ Num w' b a len ∧ w'.heap.size = w.heap.size ∧ (∀ k, k ≠ b → w'.heap[k]? = w.heap[k]?) ∧ w'.os = w.os ∧ w'.tape = w.tape ∧ w'.output = w.output

set_option maxRecDepth 100000 in
set_option maxHeartbeats 1000000 in
theorem next_any (w : World) (b : Nat) (a : Option Addr) (len : Nat) (n : Int) (hn : 0 < n) (hb : n ≤ 1000000) (hm : len ≤ maxLen) (h : Num w b a len) : Calls Tryz.prog 22 #[.pointer (some ⟨b, 0, none⟩), .int .i64 n] w fun e w' => Nexts w b a len n e w' := by
  obtain ⟨c, K, hblk, hl, hne⟩ := h
  unfold maxLen at hm
  have c0 : w.cell? ⟨b, 0, none⟩ = some (.slice a len c) := by simp [World.cell?, hblk]
  have c1 : w.cell? ⟨b, 1, none⟩ = some (.int .i64 K) := by simp [World.cell?, hblk]
  have f1 : w.frozen? ⟨b, 1, none⟩ = false := by simp [World.frozen?, hblk]
  by_cases hK : len ≤ K
  · have hd : decide ((len : Int) ≤ (K : Int)) = true := by simpa using hK
    go_enter Tryz.func22, Tryz.ntmps22
    go_wp2
    go_quiet (fail)
    go_wp2
    go_ret
    exact ⟨⟨0, by omega, by omega, rfl⟩, ⟨c, K, hblk, hl, hne⟩, rfl, fun _ _ => rfl, rfl, rfl, rfl⟩
  · have hd : decide ((len : Int) ≤ (K : Int)) = false := by simp; omega
    have hd2 : decide (n < 1) = false := by simp; omega
    rcases hl with hl | ⟨lb, lo, rfl, hcell⟩
    · omega
    · obtain ⟨x, hx⟩ := hcell K (by omega)
      have hne' := hne _ rfl
      have hnz : (n == 0) = false := by simp; omega
      have hr := rem_bd x n hn hb
      go_enter Tryz.func22, Tryz.ntmps22
      go_wp2
      go_quiet (fail)
      go_wp2
      have hw1 : ∃ w1, w1 = (w.drewN nq).setCell ⟨b, 1, none⟩ (Value.int .i64 (↑K + 1)) := ⟨_, rfl⟩
      obtain ⟨w1, hw1⟩ := hw1
      have Hb1 : Hid (w1.heap[b]? = some (.cells #[.slice (some ⟨lb, lo, none⟩) len c, .int .i64 (↑K + 1)] 70 (0, 0))) := by
        subst hw1; exact Joins.block_setCell (w := w.drewN nq) hblk _
      have Ho1 : Hid (∀ k, k ≠ b → w1.heap[k]? = w.heap[k]?) := fun k hk => by
        subst hw1; rw [Below.heap_setCell _ _ _ _ hk]; rfl
      have Hz1 : Hid (w1.heap.size = w.heap.size ∧ w1.os = w.os ∧ w1.tape = w.tape ∧ w1.output = w.output) := by
        have hb0 := (Below.refl 0 (w.drewN nq)).setCell (p := ⟨b, 1, none⟩) (Nat.zero_le _) (Value.int .i64 (↑K + 1))
        subst hw1
        exact ⟨by simp, hb0.os, hb0.tape, hb0.output⟩
      rw [← hw1]
      have d0 : w1.cell? ⟨b, 0, none⟩ = some (.slice (some ⟨lb, lo, none⟩) len c) := by simp [World.cell?, Hb1.out]
      have d1 : w1.cell? ⟨b, 1, none⟩ = some (.int .i64 (↑K + 1)) := by simp [World.cell?, Hb1.out]
      have d2 : w1.cell? ⟨lb, lo + K, none⟩ = some (.int .i64 x) := by rw [World.cell?_of_block (w := w) (Ho1.out lb hne')]; exact hx
      have i1 : 0 ≤ (K : Int) + 1 - 1 := by omega
      have i2 : ((K : Int) + 1 - 1) < len := by omega
      have i3 : ((K : Int) + 1 - 1).toNat = K := by omega
      clear c0 c1 f1 hd hd2 hw1 hblk hx
      go_quiet (fail)
      go_wp2
      go_ret
      exact ⟨⟨_, hr.1, hr.2, rfl⟩, ⟨c, K + 1, by rw [Int.natCast_add]; exact Hb1.out, .inr ⟨lb, lo, rfl, fun i hi => by obtain ⟨y, hy⟩ := hcell i hi; exact ⟨y, by rw [← hy]; exact World.cell?_of_block (w := w) (Ho1.out lb hne')⟩⟩, hne⟩, Hz1.out.1, Ho1.out, Hz1.out.2.1, Hz1.out.2.2.1, Hz1.out.2.2.2⟩

/-- A slice comes back. -/
def RetSl (e : Ending) : Prop := ∃ a n c, e = .returned (.slice a n c)

set_option maxRecDepth 100000 in
set_option maxHeartbeats 400000 in
theorem item_any (s : ByteArray) (x : Int) (w : World) : Calls Tryz.prog 32 #[.string s, .int .i64 x] w fun e w' => RetSl e ∧ Below w.heap.size w w' := by
  go_enter Tryz.func32, Tryz.ntmps32
  go_wp2
  go_ret
  exact ⟨⟨_, _, _, rfl⟩, (Below.refl _ _).alloc (Nat.le_refl _) _⟩

set_option maxRecDepth 100000 in
set_option maxHeartbeats 1000000 in
theorem priced_any (s t : ByteArray) (x : Int) (w : World) (h0 : 0 ≤ x) (h1 : x ≤ 1000000) : Calls Tryz.prog 37 #[.string s, .int .i64 x, .string t] w fun e w' => RetSl e ∧ Below w.heap.size w w' := by
  go_enter Tryz.func37, Tryz.ntmps37
  go_wp2
  go_loop [7, 8] (fun n k => ∃ (y z : Int), 0 ≤ y ∧ y ≤ 1000000 ∧ 0 ≤ z ∧ z ≤ 2 ∧ n = .int .i64 y ∧ k = .int .i64 z) (fun _ k => (intOf k).toNat)
  case atStart => exact ⟨x, 2, h0, h1, by omega, by omega, rfl, rfl⟩
  case round =>
    obtain ⟨y, z, hy0, hy1, hz0, hz1, rfl, rfl⟩ := hrel
    by_cases hz : 0 < z
    · by_cases hy : y % 10 = 0
      · have hyb : ((y % 10) == 0) = true := by simpa using hy
        go_wp2
        go_round
        case rel => exact ⟨y / 10, z - 1, by omega, by omega, by omega, by omega, rfl, rfl⟩
        case measure => simp [intOf]; omega
      · have hyb : ((y % 10) == 0) = false := by simpa using hy
        go_wp2
        go_ret
        exact ⟨⟨_, _, _, rfl⟩, (Below.refl _ _).alloc (Nat.le_refl _) _⟩
    · go_wp2
      go_ret
      exact ⟨⟨_, _, _, rfl⟩, (Below.refl _ _).alloc (Nat.le_refl _) _⟩
end Go.EvNil

namespace Go.EvNil
open Go Go.Proofs Go.RowKit

def RetB (e : Ending) : Prop := ∃ r : Bool, e = .returned (.bool r)
def RetS (e : Ending) : Prop := ∃ s : ByteArray, e = .returned (.string s)

set_option maxRecDepth 100000 in
set_option maxHeartbeats 4000000 in
theorem name_any (s : ByteArray) (w : World) (hs : s.size ≤ maxLen) : Calls Tryz.prog 94 #[.string s] w fun e w' => RetB e ∧ w = w' := by
  unfold maxLen at hs
  go_enter Tryz.func94, Tryz.ntmps94
  go_wp2
  go_loop [3] (fun i => ∃ k : Nat, k ≤ s.size ∧ i = .int .i64 k) (fun i => s.size - (intOf i).toNat)
  case atStart => exact ⟨0, Nat.zero_le _, rfl⟩
  case round =>
    obtain ⟨k, hk, rfl⟩ := hrel
    by_cases hlt : k < s.size
    · go_wp2
      all_goals first
        | (go_round
           case rel => exact ⟨k + 1, by omega, by go_num⟩
           case measure => simp [intOf]; omega)
        | (go_ret; exact ⟨⟨_, rfl⟩, rfl⟩)
    · go_wp2
      all_goals (go_ret; exact ⟨⟨_, rfl⟩, rfl⟩)

set_option maxRecDepth 100000 in
set_option maxHeartbeats 4000000 in
theorem param_any (s : ByteArray) (w : World) (hs : s.size ≤ maxLen) : Calls Tryz.prog 123 #[.string s] w fun e w' => RetB e ∧ w = w' := by
  unfold maxLen at hs
  by_cases h60 : (60 : Int) < (s.size : Int)
  · go_enter Tryz.func123, Tryz.ntmps123
    go_wp2
    all_goals (go_ret; exact ⟨⟨_, rfl⟩, rfl⟩)
  · go_enter Tryz.func123, Tryz.ntmps123
    go_wp2
    go_loop [3] (fun i => ∃ k : Nat, k ≤ s.size ∧ i = .int .i64 k) (fun i => s.size - (intOf i).toNat)
    case atStart => exact ⟨0, Nat.zero_le _, rfl⟩
    case round =>
      obtain ⟨k, hk, rfl⟩ := hrel
      by_cases hlt : k < s.size
      · go_wp2
        all_goals first
          | (go_round
             case rel => exact ⟨k + 1, by omega, by go_num⟩
             case measure => simp [intOf]; omega)
          | (go_ret; exact ⟨⟨_, rfl⟩, rfl⟩)
      · go_wp2
        all_goals (go_ret; exact ⟨⟨_, rfl⟩, rfl⟩)
end Go.EvNil

namespace Go.EvNil
open Go Go.Proofs Go.RowKit

/-- Elements of symbols that can be read. -/
def Syms (w : World) (a : Option Addr) (n : Nat) : Prop := n ≤ 1000 ∧ (0 < n → ∃ b o, a = some ⟨b, o, none⟩ ∧ b < w.heap.size ∧ ∀ i, i < n → ∃ (s : ByteArray) (k m : Int), s.size ≤ maxLen ∧ w.cell? ⟨b, o + i * 3, none⟩ = some (.string s) ∧ w.cell? ⟨b, o + i * 3 + 1, none⟩ = some (.int .i64 k) ∧ w.cell? ⟨b, o + i * 3 + 2, none⟩ = some (.int .i64 m) ∧ 0 ≤ m ∧ m ≤ 9)

set_option maxRecDepth 100000 in
set_option maxHeartbeats 400000 in
theorem kinds_any (w : World) : Calls Tryz.prog 121 #[] w fun e w' => e = .returned (.slice (some ⟨w.heap.size, 0, none⟩) 6 6) ∧ w' = w.alloc (.cells #[.string ⟨#[]⟩, .string ⟨#[116, 101, 120, 116]⟩, .string ⟨#[110, 117, 109, 98, 101, 114]⟩, .string ⟨#[100, 97, 116, 101]⟩, .string ⟨#[98, 111, 111, 108]⟩, .string ⟨#[116, 97, 98, 108, 101]⟩] 9) := by
  go_enter Tryz.func121, Tryz.ntmps121
  go_wp2
  go_ret
  exact ⟨rfl, rfl⟩

set_option maxRecDepth 100000 in
set_option maxHeartbeats 1000000 in
theorem kindName_any (n : Int) (w : World) : Calls Tryz.prog 95 #[.int .i64 n] w fun e w' => RetS e ∧ Below w.heap.size w w' := by
  by_cases h : n < 1 ∨ 5 < n
  · rcases h with h | h
    · go_enter Tryz.func95, Tryz.ntmps95
      go_wp2
      all_goals (go_ret; exact ⟨⟨_, rfl⟩, Below.refl _ _⟩)
    · have h' : ¬ n < 1 := by omega
      go_enter Tryz.func95, Tryz.ntmps95
      go_wp2
      all_goals (go_ret; exact ⟨⟨_, rfl⟩, Below.refl _ _⟩)
  · have hn : n = 1 ∨ n = 2 ∨ n = 3 ∨ n = 4 ∨ n = 5 := by omega
    rcases hn with rfl | rfl | rfl | rfl | rfl
    all_goals
      go_enter Tryz.func95, Tryz.ntmps95
      go_wp2_with (go_at_call 121; refine (kinds_any _).mono ?_; rintro e w' ⟨rfl, rfl⟩)
      go_ret
      exact ⟨⟨_, rfl⟩, (Below.refl _ _).alloc (Nat.le_refl _) _⟩

set_option maxRecDepth 100000 in
set_option maxHeartbeats 1000000 in
theorem symbolName_any (nm : Value) (ver : Value) (cs rs st : Value) (sa : Option Addr) (sn sc : Nat) (n : Int) (w : World) (hS : Syms w sa sn) : Calls Tryz.prog 144 #[.agg #[nm, ver, cs, .slice sa sn sc, rs, st], .int .i64 n] w fun e w' => RetS e ∧ Below w.heap.size w w' := by
  obtain ⟨hle, hS⟩ := hS
  by_cases h0 : n < 0
  · go_enter Tryz.func144, Tryz.ntmps144
    go_wp2
    all_goals (go_ret; exact ⟨⟨_, rfl⟩, (Below.refl _ _).alloc (Nat.le_refl _) _⟩)
  · by_cases h1 : (sn : Int) ≤ n
    · go_enter Tryz.func144, Tryz.ntmps144
      go_wp2
      all_goals (go_ret; exact ⟨⟨_, rfl⟩, (Below.refl _ _).alloc (Nat.le_refl _) _⟩)
    · obtain ⟨i, rfl⟩ : ∃ i : Nat, n = i := ⟨n.toNat, by omega⟩
      obtain ⟨b, o, rfl, hb, hc⟩ := hS (by omega)
      obtain ⟨s, k, m, _, c0, _, _, _, _⟩ := hc i (by omega)
      have hi : (i : Int) < (sn : Int) := by omega
      go_enter Tryz.func144, Tryz.ntmps144
      go_wp2
      all_goals (go_ret; exact ⟨⟨_, rfl⟩, (Below.refl _ _).alloc (Nat.le_refl _) _⟩)
end Go.EvNil

namespace Go.EvNil
open Go Go.Proofs Go.RowKit

/-- A slice of numbers, not too long. -/
def Ints (w : World) (a : Option Addr) (n : Nat) : Prop := n ≤ 1000 ∧ (0 < n → ∃ b o, a = some ⟨b, o, none⟩ ∧ b < w.heap.size ∧ ∀ i, i < n → ∃ x : Int, w.cell? ⟨b, o + i, none⟩ = some (.int .i64 x))

def Drawn (w w' : World) : Prop := ∃ n, w' = w.drewN n

set_option maxRecDepth 100000 in
set_option maxHeartbeats 2000000 in
theorem ints_any (a b : Option Addr) (m n c d : Nat) (w : World) (ha : Ints w a m) (hb : Ints w b n) : Calls Tryz.prog 20 #[.slice a m c, .slice b n d] w fun e w' => RetB e ∧ Drawn w w' := by
  obtain ⟨h1, ha⟩ := ha
  obtain ⟨h2, hb⟩ := hb
  by_cases hmn : m = n
  · subst hmn
    have he : ((m : Int) != (m : Int)) = false := by simp
    go_enter Tryz.func20, Tryz.ntmps20
    go_wp2
    go_loopw [5] (fun i wr => ∃ k : Nat, k ≤ m ∧ i = .int .i64 k ∧ Drawn w wr) (fun i _ => m - (intOf i).toNat)
    case atStart => exact ⟨0, Nat.zero_le _, rfl, 0, rfl⟩
    case round =>
      obtain ⟨k, hk, rfl, q, rfl⟩ := hrel
      by_cases hlt : k < m
      · obtain ⟨b1, o1, rfl, hb1, hc1⟩ := ha (by omega)
        obtain ⟨b2, o2, rfl, hb2, hc2⟩ := hb (by omega)
        obtain ⟨x, hx⟩ := hc1 k hlt
        obtain ⟨y, hy⟩ := hc2 k hlt
        have i1 : (0 : Int) ≤ (k : Int) := by omega
        have i2 : (k : Int) < (m : Int) := by omega
        clear hc1 hc2 ha hb
        go_wp2
        go_quiet (fail)
        go_wp2
        all_goals first
          | (go_roundw
             case rel => exact ⟨k + 1, by omega, by go_num, _, (by first | rfl | exact World.drewN_drewN _ _ _)⟩
             case measure => simp [intOf]; omega)
          | (go_ret; exact ⟨⟨_, rfl⟩, _, (by first | rfl | exact World.drewN_drewN _ _ _)⟩)
      · go_wp2
        all_goals (go_ret; exact ⟨⟨_, rfl⟩, q, rfl⟩)
  · have he : ((m : Int) != (n : Int)) = true := by simp; omega
    go_enter Tryz.func20, Tryz.ntmps20
    go_wp2
    all_goals (go_ret; exact ⟨⟨_, rfl⟩, 0, rfl⟩)

theorem Drawn.below {w w' : World} (h : Drawn w w') (B : Nat) : Below B w w' := by
  obtain ⟨n, rfl⟩ := h
  exact ⟨rfl, rfl, rfl, Nat.le_refl _, fun _ _ => rfl⟩

theorem Ints.below {w w' : World} {a : Option Addr} {n : Nat} (h : Ints w a n) (hb : Below w.heap.size w w') : Ints w' a n :=
  ⟨h.1, fun hn => by
    obtain ⟨b, o, e, hl, hc⟩ := h.2 hn
    exact ⟨b, o, e, Nat.lt_of_lt_of_le hl hb.size, fun i hi => by obtain ⟨x, hx⟩ := hc i hi; exact ⟨x, by rw [hb.cell hl]; exact hx⟩⟩⟩
theorem Syms.below {w w' : World} {a : Option Addr} {n : Nat} (h : Syms w a n) (hb : Below w.heap.size w w') : Syms w' a n :=
  ⟨h.1, fun hn => by
    obtain ⟨b, o, e, hl, hc⟩ := h.2 hn
    exact ⟨b, o, e, Nat.lt_of_lt_of_le hl hb.size, fun i hi => by
      obtain ⟨s, k, m, h1, h2, h3, h4, h5⟩ := hc i hi
      exact ⟨s, k, m, h1, by rw [hb.cell hl]; exact h2, by rw [hb.cell hl]; exact h3, by rw [hb.cell hl]; exact h4, h5⟩⟩⟩

set_option maxRecDepth 100000 in
set_option maxHeartbeats 2000000 in
theorem sameRule_any (h1 h2 : Int) (o1 p1 o2 p2 : ByteArray) (a b : Option Addr) (m n c d : Nat) (w : World) (ha : Ints w a m) (hb : Ints w b n) :
    Calls Tryz.prog 124 #[.agg #[.int .i64 h1, .string o1, .string p1, .slice a m c], .agg #[.int .i64 h2, .string o2, .string p2, .slice b n d]] w fun e w' => RetB e ∧ Below w.heap.size w w' := by
  go_enter Tryz.func124, Tryz.ntmps124
  go_wp2_with (go_at_call 20; refine (ints_any a b m n c d _ ((ha.below ((Below.refl _ _).alloc (Nat.le_refl _) _)).below ((Below.refl _ _).alloc (Nat.le_refl _) _)) ((hb.below ((Below.refl _ _).alloc (Nat.le_refl _) _)).below ((Below.refl _ _).alloc (Nat.le_refl _) _))).mono ?_; rintro e w' ⟨⟨r, rfl⟩, q, rfl⟩)
  all_goals (go_ret; exact ⟨⟨_, rfl⟩, (((Below.refl _ _).alloc (Nat.le_refl _) _).alloc (by simp) _).trans (Drawn.below ⟨q, rfl⟩ _)⟩)

end Go.EvNil

namespace Go.EvNil
open Go Go.Proofs Go.RowKit

/-- A slice of strings that can be read. -/
def Strs (w : World) (a : Option Addr) (n : Nat) : Prop := n ≤ 1000 ∧ (0 < n → ∃ b o, a = some ⟨b, o, none⟩ ∧ b < w.heap.size ∧ ∀ i, i < n → ∃ s : ByteArray, s.size ≤ maxLen ∧ w.cell? ⟨b, o + i, none⟩ = some (.string s))
theorem Strs.below {w w' : World} {a : Option Addr} {n : Nat} (h : Strs w a n) (hb : Below w.heap.size w w') : Strs w' a n :=
  ⟨h.1, fun hn => by
    obtain ⟨b, o, e, hl, hc⟩ := h.2 hn
    exact ⟨b, o, e, Nat.lt_of_lt_of_le hl hb.size, fun i hi => by obtain ⟨x, hz, hx⟩ := hc i hi; exact ⟨x, hz, by rw [hb.cell hl]; exact hx⟩⟩⟩

set_option maxRecDepth 100000 in
set_option maxHeartbeats 4000000 in
theorem unique_any (a : Option Addr) (n c : Nat) (w : World) (h : Strs w a n) : Calls Tryz.prog 96 #[.slice a n c] w fun e w' => RetB e ∧ Drawn w w' := by
  obtain ⟨h1, h⟩ := h
  go_enter Tryz.func96, Tryz.ntmps96
  go_wp2
  go_loopw [3] (fun i wr => ∃ k : Nat, k ≤ n ∧ i = .int .i64 k ∧ Drawn w wr) (fun i _ => n - (intOf i).toNat)
  case atStart => exact ⟨0, Nat.zero_le _, rfl, 0, rfl⟩
  case round =>
    obtain ⟨k, hk, rfl, q, rfl⟩ := hrel
    by_cases hlt : k < n
    · obtain ⟨b, o, rfl, hb, hc⟩ := h (by omega)
      obtain ⟨s, hs, hx⟩ := hc k hlt
      have i2 : (k : Int) < (n : Int) := by omega
      go_wp2_with (go_at_call 94; refine (name_any s _ hs).mono ?_; rintro e w' ⟨⟨r, rfl⟩, rfl⟩)
      · go_ret
        exact ⟨⟨_, rfl⟩, q, rfl⟩
      · go_loopw [5] (fun j wr => ∃ m : Nat, m ≤ k ∧ j = .int .i64 m ∧ Drawn w wr) (fun j _ => k - (intOf j).toNat)
        case atStart => exact ⟨0, Nat.zero_le _, rfl, q, rfl⟩
        case round =>
          obtain ⟨m, hm, rfl, q2, rfl⟩ := hrel
          by_cases hlt2 : m < k
          · obtain ⟨t, ht, hy⟩ := hc m (by omega)
            have j1 : (0 : Int) ≤ (m : Int) := by omega
            have j2 : (m : Int) < (n : Int) := by omega
            have j3 : (0 : Int) ≤ (k : Int) := by omega
            go_wp2
            go_quiet (fail)
            go_wp2
            all_goals first
              | (go_roundw
                 case rel => exact ⟨m + 1, by omega, by go_num, _, (by first | rfl | exact World.drewN_drewN _ _ _)⟩
                 case measure => simp [intOf]; omega)
              | (go_ret; exact ⟨⟨_, rfl⟩, _, (by first | rfl | exact World.drewN_drewN _ _ _)⟩)
              | (refine ⟨⟨m + 1, by omega, by go_num, _, rfl⟩, ?_⟩; simp [intOf]; omega)
          · go_wp2
            go_roundw
            case rel => exact ⟨k + 1, by omega, by go_num, _, rfl⟩
            case measure => simp [intOf]; omega
    · go_wp2
      all_goals (go_ret; exact ⟨⟨_, rfl⟩, q, rfl⟩)
end Go.EvNil
