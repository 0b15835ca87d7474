/-
  Contracts of functions that the law comes to, walked: sums and products of texts, first part.
-/
import Derived.Test.YtcooocbhkkmiaaaGreatDoorProg
import Derived.WalkKit
import Derived.WalkSpells
import Derived.WalkLawsBesides
import Derived.Deep.QuietTactic
import Derived.BigQuiet
import Derived.Lib.Hide
import Derived.Lib.SmallJoins
import Derived.Lib.IndexBytes
import Derived.Lib.SlBytesRow
import Derived.Deep.RegionHeld3
import Derived.Deep.RegionLaw
import Derived.StillTailTactics
set_option linter.all false
namespace Go.EvProp

def V (l : List UInt8) : Nat := l.foldl (fun n c => n * 256 + c.toNat) 0

theorem V_foldl (l : List UInt8) : ∀ n, l.foldl (fun n c => n * 256 + c.toNat) n = n * 256 ^ l.length + V l := by
  induction l with
  | nil => intro n; simp [V]
  | cons c l ih =>
    intro n
    simp only [List.foldl_cons, List.length_cons, V]
    rw [ih, ih (0 * 256 + c.toNat), Nat.pow_succ]
    have : n * (256 ^ l.length * 256) = n * 256 * 256 ^ l.length := by rw [Nat.mul_assoc, Nat.mul_comm 256]
    rw [this]
    simp only [Nat.zero_mul, Nat.zero_add, Nat.add_mul]
    omega

theorem V_cons (c : UInt8) (l : List UInt8) : V (c :: l) = c.toNat * 256 ^ l.length + V l := by
  show (c :: l).foldl _ 0 = _
  rw [List.foldl_cons, V_foldl]
  simp

theorem V_snoc (l : List UInt8) (c : UInt8) : V (l ++ [c]) = V l * 256 + c.toNat := by
  unfold V
  rw [List.foldl_append]
  rfl

theorem V_nil : V [] = 0 := rfl

theorem V_lt : ∀ (l : List UInt8), V l < 256 ^ l.length
  | [] => by simp [V]
  | c :: l => by
    rw [V_cons, List.length_cons, Nat.pow_succ]
    have h1 := V_lt l
    have h2 := UInt8.toNat_lt c
    have h3 : c.toNat * 256 ^ l.length ≤ 255 * 256 ^ l.length := Nat.mul_le_mul_right _ (by omega)
    omega

/-- Zeros in front count nothing. -/
theorem V_drop (l : List UInt8) : ∀ (k : Nat), (∀ i, i < k → l[i]? = some 0) → V (l.drop k) = V l
  | 0, _ => by simp
  | k + 1, h => by
    have h0 := V_drop l k fun i hi => h i (by omega)
    have hk := h k (by omega)
    obtain ⟨hlt, hk⟩ := List.getElem?_eq_some_iff.1 hk
    rw [List.drop_eq_getElem_cons hlt, V_cons, hk] at h0
    simpa using h0

/-- A first byte that is not 0: the length is the least one. -/
theorem V_len {c : UInt8} {l : List UInt8} (hc : c ≠ 0) {n : Nat} (h : V (c :: l) < 256 ^ n) : (c :: l).length ≤ n := by
  rw [V_cons] at h
  have h1 : 1 ≤ c.toNat := by
    have : c.toNat ≠ 0 := fun e => hc (UInt8.toNat_inj.1 (by simpa using e))
    omega
  have h2 : 256 ^ l.length ≤ c.toNat * 256 ^ l.length := Nat.le_mul_of_pos_left _ h1
  have h3 : 256 ^ l.length < 256 ^ n := by omega
  have := (Nat.pow_lt_pow_iff_right (by omega)).1 h3
  simp only [List.length_cons]
  omega

/-- t is s without zeros in front, as far as it matters. -/
def Same (s t : ByteArray) : Prop := V t.data.toList = V s.data.toList ∧ t.size ≤ s.size ∧ ∀ n, V s.data.toList < 256 ^ n → t.size ≤ n

theorem same_drop (s t : ByteArray) (k : Nat) (e1 : t.data.toList = s.data.toList.drop k) (hk : k ≤ s.data.toList.length) (hz : ∀ j, j < k → s.data.toList[j]? = some 0) (he : ∀ h : k < s.data.toList.length, s.data.toList[k] ≠ 0) : Same s t := by
  have l1 : s.data.toList.length = s.size := Array.length_toList
  have l2 : t.data.toList.length = t.size := Array.length_toList
  have l3 : t.size = s.size - k := by rw [← l2, e1, List.length_drop, l1]
  refine ⟨by rw [e1]; exact V_drop _ _ hz, by omega, fun n hn => ?_⟩
  by_cases h : k < s.data.toList.length
  · rw [← V_drop _ _ hz, List.drop_eq_getElem_cons h] at hn
    have h2 := V_len (he h) hn
    rw [← List.drop_eq_getElem_cons h, ← e1, l2] at h2
    exact h2
  · omega

theorem zeros_snoc {l : List UInt8} {k : Nat} (hz : ∀ j, j < k → l[j]? = some 0) (h : l[k]? = some 0) : ∀ j, j < k + 1 → l[j]? = some 0 := fun j hj => by
  by_cases e : j = k
  · subst e; exact h
  · exact hz j (by omega)

/-- The first j bytes of a number of eight bytes. -/
def bl (n j : Nat) : List Int := (List.range j).map fun i => (((n / 2 ^ (56 - 8 * i)) % 256 : Nat) : Int)

theorem ofNat_mod (k : Nat) : (UInt8.ofNat (k % 256)).toNat = k % 256 := by
  rw [UInt8.toNat_ofNat']; omega

theorem V_bl (n : Nat) (h : n < 9223372036854775808) : V ((bl n 8).map fun x => UInt8.ofNat x.toNat) = n := by
  have e : (bl n 8).map (fun x => UInt8.ofNat x.toNat) = [UInt8.ofNat (n / 72057594037927936 % 256), UInt8.ofNat (n / 281474976710656 % 256), UInt8.ofNat (n / 1099511627776 % 256), UInt8.ofNat (n / 4294967296 % 256), UInt8.ofNat (n / 16777216 % 256), UInt8.ofNat (n / 65536 % 256), UInt8.ofNat (n / 256 % 256), UInt8.ofNat (n / 1 % 256)] := rfl
  rw [e]
  simp only [V, List.foldl_cons, List.foldl_nil, ofNat_mod]
  omega


/-- The least bytes that stand for n. -/
def IsB (s : ByteArray) (n : Nat) : Prop := V s.data.toList = n ∧ ∀ k, n < 256 ^ k → s.size ≤ k

theorem Same.isB {s t : ByteArray} (h : Same s t) : IsB t (V s.data.toList) := ⟨h.1, h.2.2⟩

theorem IsB.zero {s : ByteArray} {n : Nat} (h : IsB s n) : (s.size = 0) ↔ n = 0 := by
  constructor
  · intro e
    have : s.data.toList = [] := List.eq_nil_of_length_eq_zero (by rw [Array.length_toList]; exact e)
    rw [← h.1, this]; rfl
  · intro e
    have := h.2 0 (by rw [e]; decide)
    omega

theorem IsB.lt {s : ByteArray} {n : Nat} (h : IsB s n) : n < 256 ^ s.size := by
  have := V_lt s.data.toList
  rw [h.1, Array.length_toList] at this
  exact this

theorem IsB.ge {s : ByteArray} {n k : Nat} (h : IsB s n) (hk : 256 ^ k ≤ n) : k < s.size := by
  have h1 := h.lt
  have : 256 ^ k < 256 ^ s.size := Nat.lt_of_le_of_lt hk h1
  exact (Nat.pow_lt_pow_iff_right (by omega)).1 this

theorem V_append (a b : List UInt8) : V (a ++ b) = V a * 256 ^ b.length + V b := by
  show (a ++ b).foldl _ 0 = _
  rw [List.foldl_append, V_foldl]
  rfl

/-- Digits to the base 2^24, the least significant one first. -/
def D : List Nat → Nat
  | [] => 0
  | d :: l => d + 16777216 * D l

theorem D_append (a b : List Nat) : D (a ++ b) = D a + 16777216 ^ a.length * D b := by
  induction a with
  | nil => simp [D]
  | cons d a ih =>
    show d + 16777216 * D (a ++ b) = d + 16777216 * D a + 16777216 ^ (a.length + 1) * D b
    rw [ih, Nat.mul_add, Nat.pow_succ, Nat.mul_comm (16777216 ^ a.length) 16777216, Nat.mul_assoc]
    omega

theorem D_snoc (a : List Nat) (d : Nat) : D (a ++ [d]) = D a + 16777216 ^ a.length * d := by
  rw [D_append]; simp [D]

def Small (l : List Nat) : Prop := ∀ d ∈ l, d < 16777216

theorem Small.nil : Small [] := fun d h => by cases h
theorem Small.snoc {l : List Nat} {d : Nat} (h : Small l) (hd : d < 16777216) : Small (l ++ [d]) := fun e he => by
  rcases List.mem_append.1 he with he | he
  · exact h e he
  · simp at he; omega
theorem Small.take {l : List Nat} (h : Small l) (k : Nat) : Small (l.take k) := fun d hd => h d (List.mem_of_mem_take hd)

theorem D_lt {l : List Nat} (h : Small l) : D l < 16777216 ^ l.length := by
  induction l with
  | nil => simp [D]
  | cons d l ih =>
    have h1 := ih fun e he => h e (by simp [he])
    have h2 := h d (by simp)
    simp only [D, List.length_cons, Nat.pow_succ]
    omega

theorem D_take_succ (l : List Nat) (k : Nat) (h : k < l.length) : D (l.take (k + 1)) = D (l.take k) + 16777216 ^ k * l[k] := by
  rw [List.take_succ_eq_append_getElem h, D_snoc, List.length_take, Nat.min_eq_left (Nat.le_of_lt h)]

theorem pow3 (j : Nat) : 256 ^ (3 * j) = 16777216 ^ j := by rw [Nat.pow_mul]

/-- The bytes of digits, the most significant digit first. -/
def B3 (d : Nat) : List UInt8 := [UInt8.ofNat (d / 65536 % 256), UInt8.ofNat (d / 256 % 256), UInt8.ofNat (d % 256)]
def Bs : List Nat → List UInt8
  | [] => []
  | d :: l => Bs l ++ B3 d

theorem V_B3 (d : Nat) (h : d < 16777216) : V (B3 d) = d := by
  simp only [B3, V, List.foldl_cons, List.foldl_nil, ofNat_mod]
  omega
theorem Bs_len (l : List Nat) : (Bs l).length = 3 * l.length := by
  induction l with
  | nil => rfl
  | cons d l ih => simp [Bs, B3, ih]; omega
theorem V_Bs {l : List Nat} (h : Small l) : V (Bs l) = D l := by
  induction l with
  | nil => rfl
  | cons d l ih =>
    simp only [Bs, D]
    rw [V_append, V_B3 d (h d (by simp)), ih fun e he => h e (by simp [he])]
    simp [B3]
    omega
end Go.EvProp

namespace Go.EvProp
open Go Go.Proofs Go.RowKit

theorem cellOf {w : World} {b i : Nat} {cs : Array Value} {t : TypeId} {v : Value} (h : w.heap[b]? = some (.cells cs t (0, 0))) (hi : cs[i]? = some v) : w.cell? ⟨b, i, none⟩ = some v := by simp [World.cell?, h, hi]
theorem heapNew (w : World) (o : Obj) : (w.alloc o).heap[w.heap.size]? = some o := heap_alloc_new w o
theorem heapOld (w : World) (o : Obj) {k : Nat} (h : k < w.heap.size) : (w.alloc o).heap[k]? = w.heap[k]? := Below.heap_alloc w o k h
theorem sizeNew (w : World) (o : Obj) : (w.alloc o).heap.size = w.heap.size + 1 := by simp

theorem byte0 {c : UInt8} (h : (((c.toNat : Nat) : Int) == 0) = true) : c = 0 := by
  have : c.toNat = 0 := by simpa using h
  exact UInt8.toNat_inj.1 (by simpa using this)

theorem bytes_get (s : ByteArray) (k : Nat) (h : k < s.size) : s.data.toList[k]? = some s[k] := by
  rw [List.getElem?_eq_getElem (by rw [Array.length_toList]; exact h)]
  rfl

theorem canon_same (s : ByteArray) (k : Nat) (hk : k ≤ s.size) (hz : ∀ j, j < k → s.data.toList[j]? = some 0) (he : ∀ h : k < s.size, s[k] ≠ 0) : Same s (s.extract k s.size) :=
  same_drop s _ k (Lib.extract_to_end s k) (by rw [Array.length_toList]; exact hk) hz fun h => he (by rw [Array.length_toList] at h; exact h)

/-- A string that is the number n comes back. -/
def RetB (n : Nat) (e : Ending) : Prop := ∃ t : ByteArray, e = .returned (.string t) ∧ IsB t n

set_option maxRecDepth 100000 in
set_option maxHeartbeats 2000000 in
theorem canon_any (s : ByteArray) (w : World) (hs : s.size ≤ maxLen) : Calls Tryz.prog 110 #[.string s] w fun e w' => RetB (V s.data.toList) e ∧ w = w' := by
  unfold maxLen at hs
  go_enter Tryz.func110, Tryz.ntmps110
  go_wp2
  go_loop [3] (fun i => ∃ k : Nat, k ≤ s.size ∧ i = .int .i64 k ∧ Hid (∀ j, j < k → s.data.toList[j]? = some 0)) (fun i => s.size - (intOf i).toNat)
  case atStart => exact ⟨0, Nat.zero_le _, rfl, fun j hj => by omega⟩
  case round =>
    obtain ⟨k, hk, rfl, hz⟩ := hrel
    by_cases hlt : k < s.size
    · go_wp2
      · have hq : ((((s[k]'hlt).toNat : Nat) : Int) == 0) = true := by assumption
        go_round
        case rel => exact ⟨k + 1, by omega, by go_num, zeros_snoc hz.out (by rw [bytes_get s k hlt, byte0 hq])⟩
        case measure => simp [intOf]; omega
      · have hq : ((((s[k]'hlt).toNat : Nat) : Int) == 0) = false := by assumption
        go_ret
        exact ⟨⟨_, rfl, (canon_same s k hk hz.out (fun h e => by rw [e] at hq; simp at hq)).isB⟩, rfl⟩
    · go_wp2
      go_ret
      exact ⟨⟨_, rfl, (canon_same s k hk hz.out (fun h => absurd h hlt)).isB⟩, rfl⟩

theorem p16 : (256 : Nat) ^ 16 = 340282366920938463463374607431768211456 := by decide
theorem p7 : (256 : Nat) ^ 7 = 72057594037927936 := by decide

/-- Numbers that occur: at most 16 bytes. -/
theorem IsB.len {s : ByteArray} {n : Nat} (h : IsB s n) (hn : n < 256 ^ 16) : s.size ≤ maxLen := Nat.le_trans (h.2 16 hn) (by decide)

theorem canon_b (s : ByteArray) (n : Nat) (w : World) (h : IsB s n) (hn : n < 256 ^ 16) : Calls Tryz.prog 110 #[.string s] w fun e w' => RetB n e ∧ w = w' := by
  have := canon_any s w (h.len hn)
  rw [h.1] at this
  exact this

theorem V_take_lt (l : List UInt8) (k : Nat) (h : k ≤ 6) : V (l.take k) < 281474976710656 := by
  have h1 := V_lt (l.take k)
  have h2 : (l.take k).length ≤ 6 := by rw [List.length_take]; omega
  have h3 : 256 ^ (l.take k).length ≤ 256 ^ 6 := Nat.pow_le_pow_right (by omega) h2
  have h4 : (256 : Nat) ^ 6 = 281474976710656 := by decide
  omega

theorem V_take_succ (t : ByteArray) (k : Nat) (h : k < t.size) : V (t.data.toList.take (k + 1)) = V (t.data.toList.take k) * 256 + t[k].toNat := by
  rw [List.take_succ_eq_append_getElem (by rw [Array.length_toList]; exact h), V_snoc]
  rfl

/-- The number comes back. -/
def RetV (n : Nat) (e : Ending) : Prop := e = .returned (.tuple #[.int .i64 n, .bool true])

set_option maxRecDepth 100000 in
set_option maxHeartbeats 4000000 in
theorem int_small (s : ByteArray) (N : Nat) (w : World) (hs : IsB s N) (hV : N < 256 ^ 7) : Calls Tryz.prog 119 #[.string s] w fun e w' => RetV N e ∧ w = w' := by
  have HV := Lib.hid hV
  have HS := Lib.hid hs
  have H16 : Hid (N < 256 ^ 16) := Nat.lt_of_lt_of_le hV (Nat.pow_le_pow_right (by omega) (by omega))
  clear hV hs
  go_enter Tryz.func119, Tryz.ntmps119
  go_wp2_with (go_at_call 110; refine (canon_b s N _ HS.out H16.out).mono ?_; rintro e w' ⟨⟨t, rfl, T⟩, rfl⟩; have h7 : t.size ≤ 7 := T.2 7 HV.out; have d1 : decide ((8 : Int) < (t.size : Int)) = false := (by simp; omega); have d2 : ((t.size : Int) == 8) = false := (by simp; omega))
  go_loop [4, 5] (fun n i => ∃ k : Nat, k ≤ t.size ∧ i = .int .i64 k ∧ n = .int .i64 (V (t.data.toList.take k))) (fun _ i => t.size - (intOf i).toNat)
  case atStart => exact ⟨0, Nat.zero_le _, rfl, rfl⟩
  case round =>
    obtain ⟨k, hk, rfl, rfl⟩ := hrel
    by_cases hlt : k < t.size
    · have hb := V_take_lt t.data.toList k (by omega)
      have hn := Lib.hid (V_take_succ t k hlt)
      have hc := UInt8.toNat_lt t[k]
      generalize hv : V (t.data.toList.take k) = v at *
      clear hv
      go_wp2
      go_round
      case rel => exact ⟨k + 1, by omega, by go_num, by rw [hn.out]; go_num⟩
      case measure => simp [intOf]; omega
    · have hkt : k = t.size := by omega
      have hvt : V (t.data.toList.take k) = N := by rw [hkt, List.take_of_length_le (by rw [Array.length_toList]; exact Nat.le_refl _)]; exact T.1
      have Hvt := Lib.hid hvt
      clear hvt hkt
      go_wp2
      go_ret2
      exact ⟨by unfold RetV; rw [← Hvt.out]; rfl, rfl⟩

set_option maxRecDepth 100000 in
set_option maxHeartbeats 4000000 in
theorem small_yes (s : ByteArray) (N n : Nat) (w : World) (hs : IsB s N) (hn : n ≤ 7) (hV : N < 256 ^ n) : Calls Tryz.prog 111 #[.string s, .int .i64 n] w fun e w' => RetV N e ∧ w = w' := by
  have H7 : Hid (N < 256 ^ 7) := Nat.lt_of_lt_of_le hV (Nat.pow_le_pow_right (by omega) hn)
  have H16 : Hid (N < 256 ^ 16) := Nat.lt_of_lt_of_le hV (Nat.pow_le_pow_right (by omega) (by omega))
  have HV := Lib.hid hV
  have HS := Lib.hid hs
  clear hV hs
  go_enter Tryz.func111, Tryz.ntmps111
  go_wp2_with (first
    | (go_at_call 110; refine (canon_b s N _ HS.out H16.out).mono ?_; rintro e w' ⟨⟨t, rfl, T⟩, rfl⟩; have h7 : t.size ≤ n := T.2 n HV.out; have d1 : decide (n < t.size) = false := (by simp; omega))
    | (go_at_call 119; refine (int_small s N _ HS.out H7.out).mono ?_; rintro e w' ⟨rfl, rfl⟩))
  go_ret2
  exact ⟨rfl, rfl⟩

set_option maxRecDepth 100000 in
set_option maxHeartbeats 4000000 in
theorem small_no (s : ByteArray) (N n : Nat) (w : World) (hs : IsB s N) (hn : n ≤ 7) (hV : 256 ^ n ≤ N) (h16 : N < 256 ^ 16) : Calls Tryz.prog 111 #[.string s, .int .i64 n] w fun e w' => e = .returned (.tuple #[.int .i64 0, .bool false]) ∧ w = w' := by
  have H16 := Lib.hid h16
  have HV := Lib.hid hV
  have HS := Lib.hid hs
  clear hV hs h16
  go_enter Tryz.func111, Tryz.ntmps111
  go_wp2_with (go_at_call 110; refine (canon_b s N _ HS.out H16.out).mono ?_; rintro e w' ⟨⟨t, rfl, T⟩, rfl⟩; have h7 : n < t.size := T.ge HV.out; have d1 : decide (n < t.size) = true := (by simp; omega))
  go_ret2
  exact ⟨rfl, rfl⟩

theorem infoU8 : (Tryz.prog.info? 5).map (fun i => (i.zero, i.size, i.bytes)) = some (some (.int .u8 0), 1, 1) := by kernel_rfl

theorem newsV (w : World) (t : TypeId) (v : Value) : ∀ (j : Nat) (u : Value), [v][j]? = some u → (w.alloc (.cells #[v] t)).cell? ((⟨w.heap.size, 0, none⟩ : Addr).add j) = some u := by
  intro j u hj
  cases j with
  | zero =>
    simp at hj
    subst hj
    exact cellOf (i := 0) (heapNew w _) rfl
  | succ j => simp at hj

theorem bl_succ (n j : Nat) : bl n (j + 1) = bl n j ++ [(((n / 2 ^ (56 - 8 * j)) % 256 : Nat) : Int)] := by
  simp [bl, List.range_succ]

theorem ownB_ge {base k : Nat} {v : Value} {w : World} {xs : List Value} {e : TypeId} (h : w.ownsRow base e 1 v k xs) : ∀ g, v.ownBlock = some g → base ≤ g := by
  intro g hg
  obtain ⟨h3, h4⟩ := h
  rcases h4 with ⟨h4, h5⟩ | ⟨g', cap, cur, e1, e2, _⟩
  · subst h4; simp [Value.ownBlock] at hg
  · subst e1; simp [Value.ownBlock] at hg; omega

theorem ownsRow_last {w : World} {base k : Nat} {v : Value} {xs : List Value} {a b : Int} (h : w.ownsRow base 5 1 v k (xs ++ [.int .u8 a])) (e : a = b) : w.ownsRow base 5 1 v k (xs ++ [.int .u8 b]) := e ▸ h

/-- What own bytes stand for as a string. -/
theorem own_conv {wr : World} {g k : Nat} {cur : Array Value} (ns : List Int) (hk : ns.length = k) (hcur : wr.heap[g]? = some (.cells cur 5 (0, 0))) (htake : cur.toList.take (k * 1) = ns.map (Value.int .u8)) : ∀ i, i < k → wr.cell? ⟨g, 0 + i, none⟩ = some (.int .u8 (ns.getD i 0)) := fun i hi => by
  have h1 : (cur.toList.take (k * 1))[i]? = (ns.map (Value.int .u8))[i]? := by rw [htake]
  rw [List.getElem?_take, if_pos (by omega), List.getElem?_map] at h1
  have h2 : i < ns.length := by omega
  rw [List.getElem?_eq_getElem h2] at h1
  simp only [World.cell?, hcur, Nat.zero_add]
  simp only [Array.getElem?_toList] at h1
  rw [h1, List.getD_eq_getElem?_getD, List.getElem?_eq_getElem h2]
  rfl

set_option maxRecDepth 100000 in
set_option maxHeartbeats 4000000 in
theorem of_zero (w : World) : Calls Tryz.prog 108 #[.int .i64 0] w fun e w' => RetB 0 e ∧ Below w.heap.size w w' := by
  have hcv := fun (w : World) (l c : Nat) => run_convert_bytes_nil (P := Tryz.prog) (w := w) 87 5 Tryz.underlying87 Tryz.underlying5 l c
  have hcv' := fun (w : World) (l c : Nat) => hcv w l c 93 Tryz.underlying93
  go_enter Tryz.func108, Tryz.ntmps108
  go_wp2
  refine wp_loop_rounds 1 ?_
  rw [rounds_succ]
  go_wp2_with (go_at_call 110; refine (canon_any _ _ (by simp [maxLen])).mono ?_; rintro e w' ⟨⟨t, rfl, T⟩, rfl⟩)
  go_ret
  exact ⟨⟨t, rfl, T⟩, Below.refl _ _⟩

set_option maxRecDepth 100000 in
set_option maxHeartbeats 4000000 in
theorem of_pos (n : Nat) (w : World) (h0 : 0 < n) (h1 : n < 9223372036854775808) : Calls Tryz.prog 108 #[.int .i64 n] w fun e w' => RetB n e ∧ Below w.heap.size w w' := by
  obtain ⟨i0, hi0, hz0, hz1, hz2⟩ := info_parts infoU8
  have hp : decide ((0 : Int) < (n : Int)) = true := by simp; omega
  go_enter Tryz.func108, Tryz.ntmps108
  go_wp2
  go_loopw [3, 4] (fun v i wr => ∃ j : Nat, j ≤ 8 ∧ i = .int .i64 (56 - 8 * (j : Int)) ∧ wr.ownsRow w.heap.size 5 1 v j ((bl n j).map (Value.int .u8)) ∧ Below w.heap.size w wr) (fun _ i _ => (intOf i + 8).toNat)
  case atStart => exact ⟨0, by omega, rfl, World.ownsRow_nil _ _ _ _, Below.refl _ _⟩
  case round =>
    obtain ⟨j, hj, rfl, hown, hbr⟩ := hrel
    by_cases hlt : j < 8
    · have hjj : j = 0 ∨ j = 1 ∨ j = 2 ∨ j = 3 ∨ j = 4 ∨ j = 5 ∨ j = 6 ∨ j = 7 := by omega
      have hq := bl_succ n j
      rcases hjj with rfl | rfl | rfl | rfl | rfl | rfl | rfl | rfl
      all_goals
        have Hq := Lib.hid hq
        clear hq
        go_wp2_with (at_builtin; refine wpList_append_own _ rfl _ _ 87 rfl w.heap.size 5 i0 (.int .u8 0) 1 1 Tryz.underlying87 hi0 hz0 hz1 hz2 rfl (by decide) _ _ _ rfl (hown.alloc _) ⟨wr.heap.size, 0, none⟩ 1 1 [_] rfl rfl (newsV _ _ _) (by simp [Value.oneCell']) (by unfold maxLen; omega) (by omega) (by have := hbr.size; simp; omega) ?_; intro v' w6 hown6 hgrow6 _)
        have HB6 : Below w.heap.size w w6 := (hbr.alloc hbr.size _).grown hgrow6 (by have := hbr.size; simp; omega) (ownB_ge hown)
        have HO6 := Lib.hid hown6
        clear hown6 hgrow6
        go_wp2
        first | (refine ⟨⟨1, by omega, by go_num, ?_, HB6⟩, by simp [intOf]⟩) | (refine ⟨⟨2, by omega, by go_num, ?_, HB6⟩, by simp [intOf]⟩) | (refine ⟨⟨3, by omega, by go_num, ?_, HB6⟩, by simp [intOf]⟩) | (refine ⟨⟨4, by omega, by go_num, ?_, HB6⟩, by simp [intOf]⟩) | (refine ⟨⟨5, by omega, by go_num, ?_, HB6⟩, by simp [intOf]⟩) | (refine ⟨⟨6, by omega, by go_num, ?_, HB6⟩, by simp [intOf]⟩) | (refine ⟨⟨7, by omega, by go_num, ?_, HB6⟩, by simp [intOf]⟩) | (refine ⟨⟨8, by omega, by go_num, ?_, HB6⟩, by simp [intOf]⟩)
        rw [Hq.out, List.map_append, List.map_singleton]
        exact ownsRow_last HO6.out (by first | omega | (simp; omega) | (simp))
    · obtain rfl : j = 8 := by omega
      obtain ⟨hl, hrow⟩ := hown
      rcases hrow with ⟨_, h8⟩ | ⟨g, cap, cur, rfl, hge, hcur, hle, hcap, hcs, htake⟩
      · omega
      · have hcell := own_conv (bl n 8) (by simp [bl]) hcur htake
        have hcv := run_convert_bytes_arg (P := Tryz.prog) wr 87 5 Tryz.underlying87 Tryz.underlying5 g 0 8 cap (bl n 8) (by simp [bl]) hcell 93 Tryz.underlying93
        have hv := Lib.hid (V_bl n h1)
        have hsz : (strOfNums (bl n 8)).size = 8 := by rw [strOfNums_size]; simp [bl]
        have Hsz := Lib.hid hsz
        clear hsz hcell hcur hcs htake hl
        go_wp2_with (go_at_call 110; refine (canon_any _ _ (by rw [Hsz.out]; unfold maxLen; omega)).mono ?_; rintro e w' ⟨⟨t, rfl, T⟩, rfl⟩)
        go_ret
        rw [strOfNums_data, hv.out] at T
        exact ⟨⟨t, rfl, T⟩, hbr⟩

theorem of_any (n : Nat) (w : World) (h1 : n < 9223372036854775808) : Calls Tryz.prog 108 #[.int .i64 n] w fun e w' => RetB n e ∧ Below w.heap.size w w' := by
  by_cases h0 : n = 0
  · subst h0; exact of_zero w
  · exact of_pos n w (by omega) h1
end Go.EvProp

namespace Go.EvProp
open Go Go.Proofs Go.RowKit

theorem lt16 {n m : Nat} (h : n < m) (hm : m ≤ 340282366920938463463374607431768211456) : n < 256 ^ 16 := by rw [p16]; omega

set_option maxRecDepth 100000 in
set_option maxHeartbeats 4000000 in
theorem add_short (a b : ByteArray) (m n : Nat) (w : World) (ha : IsB a m) (hb : IsB b n) (hm : m < 72057594037927936) (hn : n < 72057594037927936) : Calls Tryz.prog 52 #[.string a, .string b] w fun e w' => RetB (m + n) e ∧ Below w.heap.size w w' := by
  have c1 : ∀ w, Calls Tryz.prog 111 #[.string a, .int .i64 7] w fun e w' => e = .returned (.tuple #[.int .i64 m, .bool true]) ∧ w = w' := fun w => small_yes a m 7 w ha (by omega) (by rw [p7]; omega)
  have c2 : ∀ w, Calls Tryz.prog 111 #[.string b, .int .i64 7] w fun e w' => e = .returned (.tuple #[.int .i64 n, .bool true]) ∧ w = w' := fun w => small_yes b n 7 w hb (by omega) (by rw [p7]; omega)
  have c3 : ∀ w, Calls Tryz.prog 108 #[.int .i64 ((m : Int) + (n : Int))] w fun e w' => RetB (m + n) e ∧ Below w.heap.size w w' := fun w => by
    have := of_any (m + n) w (by omega)
    rw [Int.natCast_add] at this
    exact this
  have C1 := Lib.hid c1
  have C2 := Lib.hid c2
  have C3 := Lib.hid c3
  clear c1 c2 c3 ha hb
  go_enter Tryz.func52, Tryz.ntmps52
  go_wp2_with (first
    | (go_at_call 111; ((with_reducible refine (C1.out _).mono ?_); rintro e w' ⟨rfl, rfl⟩))
    | (go_at_call 111; ((with_reducible refine (C2.out _).mono ?_); rintro e w' ⟨rfl, rfl⟩))
    | (go_at_call 108; ((with_reducible refine (C3.out _).mono ?_); rintro e w' ⟨⟨t, rfl, hv⟩, hb⟩)))
  go_ret
  exact ⟨⟨t, rfl, hv⟩, hb⟩

set_option maxRecDepth 100000 in
set_option maxHeartbeats 4000000 in
theorem mul_short (a b : ByteArray) (m n : Nat) (w : World) (ha : IsB a m) (hb : IsB b n) (hm : m < 16777216) (hn : n < 2147483648) : Calls Tryz.prog 109 #[.string a, .string b] w fun e w' => RetB (m * n) e ∧ Below w.heap.size w w' := by
  have hmn : m * n < 36028797018963968 := by
    have h1 : m * n ≤ 16777215 * n := Nat.mul_le_mul_right _ (by omega)
    omega
  have c1 : ∀ w, Calls Tryz.prog 111 #[.string a, .int .i64 3] w fun e w' => e = .returned (.tuple #[.int .i64 m, .bool true]) ∧ w = w' := fun w => small_yes a m 3 w ha (by omega) (Nat.lt_of_lt_of_le hm (by decide))
  have c2 : ∀ w, Calls Tryz.prog 111 #[.string b, .int .i64 4] w fun e w' => e = .returned (.tuple #[.int .i64 n, .bool true]) ∧ w = w' := fun w => small_yes b n 4 w hb (by omega) (Nat.lt_of_lt_of_le hn (by decide))
  have c3 : ∀ w, Calls Tryz.prog 108 #[.int .i64 ((m : Int) * (n : Int))] w fun e w' => RetB (m * n) e ∧ Below w.heap.size w w' := fun w => by
    have := of_any (m * n) w (by omega)
    rw [Int.natCast_mul] at this
    exact this
  have C1 := Lib.hid c1
  have C2 := Lib.hid c2
  have C3 := Lib.hid c3
  have hw : wrap64 ((m : Int) * (n : Int)) = (m : Int) * (n : Int) := IntWalk.wrap64_in _ ⟨by rw [← Int.natCast_mul]; omega, by rw [← Int.natCast_mul]; omega⟩
  clear c1 c2 c3 ha hb
  go_enter Tryz.func109, Tryz.ntmps109
  go_wp2_with (first
    | (go_at_call 111; ((with_reducible refine (C1.out _).mono ?_); rintro e w' ⟨rfl, rfl⟩))
    | (go_at_call 111; ((with_reducible refine (C2.out _).mono ?_); rintro e w' ⟨rfl, rfl⟩))
    | (go_at_call 108; ((with_reducible refine (C3.out _).mono ?_); rintro e w' ⟨⟨t, rfl, hv⟩, hb⟩)))
  go_ret
  exact ⟨⟨t, rfl, hv⟩, hb⟩

theorem small_int (q : Nat) (h : q < 36028797018963968) : IntKind.i64.wrap (q : Int) = (q : Int) := IntWalk.i64_in _ ⟨by omega, by omega⟩
theorem small_div (m n : Nat) (hm : m < 36028797018963968) : IntKind.i64.wrap ((m : Int) / (n : Int)) = (m : Int) / (n : Int) :=
  small_int (m / n) (Nat.lt_of_le_of_lt (Nat.div_le_self _ _) hm)
theorem small_mod (m n : Nat) (hm : m < 36028797018963968) : IntKind.i64.wrap ((m : Int) % (n : Int)) = (m : Int) % (n : Int) :=
  small_int (m % n) (Nat.lt_of_le_of_lt (Nat.mod_le _ _) hm)

/-- Quotient and rest come back. -/
def RetQ (m n : Nat) (e : Ending) : Prop := ∃ q r : ByteArray, e = .returned (.tuple #[.string q, .string r, .bool true]) ∧ IsB q (m / n) ∧ IsB r (m % n)

set_option maxRecDepth 100000 in
set_option maxHeartbeats 4000000 in
theorem quo_short (a b : ByteArray) (m n : Nat) (w : World) (ha : IsB a m) (hb : IsB b n) (hm : m < 36028797018963968) (hn : n < 36028797018963968) (h0 : 0 < n) : Calls Tryz.prog 50 #[.string a, .string b] w fun e w' => RetQ m n e ∧ Below w.heap.size w w' := by
  have h16 : n < 256 ^ 16 := lt16 hn (by decide)
  have c0 : ∀ w, Calls Tryz.prog 110 #[.string b] w fun e w' => RetB n e ∧ w = w' := fun w => canon_b b n w hb h16
  have c1 : ∀ w, Calls Tryz.prog 111 #[.string a, .int .i64 7] w fun e w' => e = .returned (.tuple #[.int .i64 m, .bool true]) ∧ w = w' := fun w => small_yes a m 7 w ha (by omega) (by rw [p7]; omega)
  have c3 : ∀ w, Calls Tryz.prog 108 #[.int .i64 ((m : Int) / (n : Int))] w fun e w' => RetB (m / n) e ∧ Below w.heap.size w w' := fun w => by
    have := of_any (m / n) w (Nat.lt_trans (Nat.lt_of_le_of_lt (Nat.div_le_self _ _) hm) (by decide))
    exact this
  have c4 : ∀ w, Calls Tryz.prog 108 #[.int .i64 ((m : Int).tmod (n : Int))] w fun e w' => RetB (m % n) e ∧ Below w.heap.size w w' := fun w => by
    have := of_any (m % n) w (Nat.lt_trans (Nat.lt_of_le_of_lt (Nat.mod_le _ _) hm) (by decide))
    exact this
  have C0 := Lib.hid c0
  have C1 := Lib.hid c1
  have C3 := Lib.hid c3
  have C4 := Lib.hid c4
  have hnz : ((n : Int) == 0) = false := by simp; omega
  clear c1 c3 c4 c0 ha hb
  go_enter Tryz.func50, Tryz.ntmps50
  go_wp2_with (first
    | (go_at_call 110; ((with_reducible refine (C0.out _).mono ?_); rintro e w1 ⟨⟨c, rfl, hc⟩, rfl⟩; have hcs : ¬ (c.size = 0) := (fun e => by have := hc.zero.1 e; omega); have hcz : ((c.size : Int) == 0) = false := (by rw [beq_eq_false_iff_ne]; omega); have C2 : Hid (∀ w, Calls Tryz.prog 111 #[.string c, .int .i64 7] w fun e w' => e = .returned (.tuple #[.int .i64 n, .bool true]) ∧ w = w') := (fun w => small_yes c n 7 w hc (by omega) (by rw [p7]; omega))))
    | (go_at_call 111; ((with_reducible refine (C1.out _).mono ?_); rintro e w' ⟨rfl, rfl⟩))
    | (go_at_call 111; ((with_reducible refine (C2.out _).mono ?_); rintro e w' ⟨rfl, rfl⟩)))
  have hn0 : ¬ n = 0 := by omega
  have q1 : IntKind.i64.wrap ((m : Int) / (n : Int)) = (m : Int) / (n : Int) := small_div m n hm
  have q2 : IntKind.i64.wrap ((m : Int) % (n : Int)) = (m : Int) % (n : Int) := small_mod m n hm
  go_region_law (first
    | (go_simp; go_at_call 108; (with_reducible refine (C3.out _).mono ?_); rintro e w3 ⟨⟨t, rfl, hv⟩, hb⟩)
    | (go_simp; go_at_call 108; (with_reducible refine (C4.out _).mono ?_); rintro e w4 ⟨⟨t4, rfl, hv4⟩, hb4⟩))
  all_goals
    go_wp2
    go_ret3
    exact ⟨⟨t, t4, rfl, hv, hv4⟩, ((Below.refl w.heap.size w).drew.trans hb).trans (hb4.mono hb.size)⟩
end Go.EvProp

namespace Go.EvProp
open Go Go.Proofs Go.RowKit

def dv (l : List Nat) : List Value := l.map fun (d : Nat) => Value.int .i64 (d : Int)
theorem dv_snoc (l : List Nat) (d : Nat) : dv (l ++ [d]) = dv l ++ [.int .i64 (d : Int)] := by simp [dv]

/-- A slice of digits. -/
def Dg (w : World) (v : Value) (l : List Nat) : Prop := w.ownsRow 0 3 1 v l.length (dv l)

theorem own_below {base k : Nat} {v : Value} {w w' : World} {e : TypeId} {xs : List Value} (h : w.ownsRow base e 1 v k xs) (hb : Below w.heap.size w w') : w'.ownsRow base e 1 v k xs := by
  obtain ⟨h3, h4⟩ := h
  refine ⟨h3, ?_⟩
  rcases h4 with h4 | ⟨g, cap, cur, e1, e2, e3, e4⟩
  · exact .inl h4
  · exact .inr ⟨g, cap, cur, e1, e2, by rw [hb.block g (Array.getElem?_eq_some_iff.1 e3).1]; exact e3, e4⟩
theorem Dg.below {v : Value} {w w' : World} {l : List Nat} (h : Dg w v l) (hb : Below w.heap.size w w') : Dg w' v l := own_below h hb
theorem Dg.of {v : Value} {w : World} {l : List Nat} {base : Nat} (h : w.ownsRow base 3 1 v l.length (dv l)) : Dg w v l := by
  obtain ⟨h3, h4⟩ := h
  refine ⟨h3, ?_⟩
  rcases h4 with h4 | ⟨g, cap, cur, e1, e2, e3⟩
  · exact .inl h4
  · exact .inr ⟨g, cap, cur, e1, Nat.zero_le _, e3⟩

/-- What can be read of it. -/
theorem Dg.open {v : Value} {w : World} {l : List Nat} (h : Dg w v l) : ∃ a cap, v = .slice a l.length cap ∧ cap ≤ maxLen ∧ l.length ≤ cap ∧ (0 < l.length → ∃ g, a = some ⟨g, 0, none⟩ ∧ g < w.heap.size) ∧ ∀ g, a = some ⟨g, 0, none⟩ → ∀ i (hi : i < l.length), w.cell? ⟨g, i, none⟩ = some (.int .i64 (l[i] : Int)) := by
  obtain ⟨h3, h4⟩ := h
  rcases h4 with ⟨rfl, h5⟩ | ⟨g, cap, cur, rfl, _, hcur, hle, hcap, hcs, htake⟩
  · exact ⟨none, 0, by rw [h5], by decide, by omega, fun h => by omega, fun g hg => by cases hg⟩
  · refine ⟨_, cap, rfl, hcap, hle, fun _ => ⟨g, rfl, (Array.getElem?_eq_some_iff.1 hcur).1⟩, fun g' hg i hi => ?_⟩
    cases hg
    have h1 : (cur.toList.take (l.length * 1))[i]? = (dv l)[i]? := by rw [htake]
    rw [List.getElem?_take, if_pos (by omega)] at h1
    simp only [dv, List.getElem?_map, List.getElem?_eq_getElem hi, Option.map_some] at h1
    simp only [Array.getElem?_toList] at h1
    simp [World.cell?, hcur, h1]

theorem infoInt : (Tryz.prog.info? 3).map (fun i => (i.zero, i.size, i.bytes)) = some (some (.int .i64 0), 1, 8) := by kernel_rfl

/-- Digits of N come back. -/
def RetD (N : Nat) (e : Ending) (w' : World) : Prop := ∃ v l, e = .returned v ∧ Dg w' v l ∧ D l = N ∧ Small l ∧ l.length ≤ 6 ∧ ∀ k, N < 256 ^ (3 * k) → l.length ≤ k

theorem V3 {l : List UInt8} (h : l.length ≤ 3) : V l < 16777216 := by
  have h1 := V_lt l
  have h3 : 256 ^ l.length ≤ 256 ^ 3 := Nat.pow_le_pow_right (by omega) h
  have h4 : (256 : Nat) ^ 3 = 16777216 := by decide
  omega

theorem V_part (t : ByteArray) (f m : Nat) (hf : f ≤ m) (hm : m < t.size) : V ((t.data.toList.drop f).take (m + 1 - f)) = V ((t.data.toList.drop f).take (m - f)) * 256 + t[m].toNat := by
  have e : m + 1 - f = (m - f) + 1 := by omega
  have hl : t.data.toList.length = t.size := Array.length_toList
  rw [e, List.take_succ_eq_append_getElem (by rw [List.length_drop]; omega), V_snoc]
  have h2 : (t.data.toList.drop f)[m - f]'(by rw [List.length_drop]; omega) = t[m] := by
    rw [List.getElem_drop]
    have : f + (m - f) = m := by omega
    simp only [this]
    rfl
  rw [h2]

theorem V_cutAt (l : List UInt8) (f E j : Nat) (hfE : f ≤ E) (hE : E ≤ l.length) (hj : l.length - E = 3 * j) : V (l.drop f) = V (l.drop E) + 16777216 ^ j * V ((l.drop f).take (E - f)) := by
  have e : l.drop f = (l.drop f).take (E - f) ++ l.drop E := by
    have := List.take_append_drop (E - f) (l.drop f)
    rw [List.drop_drop] at this
    have e2 : f + (E - f) = E := by omega
    rw [e2] at this
    exact this.symm
  have : V (l.drop f) = V ((l.drop f).take (E - f)) * 256 ^ (l.drop E).length + V (l.drop E) := by
    conv => lhs; rw [e]
    exact V_append _ _
  rw [this, List.length_drop, hj, pow3, Nat.mul_comm]
  omega

set_option maxRecDepth 100000 in
set_option maxHeartbeats 4000000 in
theorem digits_any (s : ByteArray) (N : Nat) (w : World) (hs : IsB s N) (h16 : N < 256 ^ 16) : Calls Tryz.prog 112 #[.string s] w fun e w' => RetD N e w' ∧ Below w.heap.size w w' := by
  obtain ⟨i0, hi0, hz0, hz1, hz2⟩ := info_parts infoInt
  have HS := Lib.hid hs
  have H16 := Lib.hid h16
  clear hs h16
  go_enter Tryz.func112, Tryz.ntmps112
  go_wp2_with (go_at_call 110; refine (canon_b s N _ HS.out H16.out).mono ?_; rintro e w' ⟨⟨t, rfl, T⟩, rfl⟩; have h7 : t.size ≤ 16 := T.2 16 H16.out)
  have hl : t.data.toList.length = t.size := Array.length_toList
  go_loopw [3, 4] (fun v i wr => ∃ (j : Nat) (l : List Nat), i = .int .i64 ((t.size : Int) - 3 * (j : Int)) ∧ 3 * j ≤ t.size + 2 ∧ l.length = j ∧ D l = V (t.data.toList.drop (t.size - 3 * j)) ∧ Small l ∧ wr.ownsRow w.heap.size 3 1 v j (dv l) ∧ Below w.heap.size w wr) (fun _ i _ => (intOf i).toNat)
  case atStart => exact ⟨0, [], by simp, by omega, rfl, by simp [hl, D]; rw [List.drop_of_length_le (by omega)]; rfl, Small.nil, by simpa [dv] using World.ownsRow_nil w w.heap.size 3 1, Below.refl _ _⟩
  case round =>
    obtain ⟨j, l, rfl, hj, hlen, hD, hsm, hown, hbr⟩ := hrel
    by_cases hlt : 3 * j < t.size
    · obtain ⟨wo, rfl⟩ : ∃ wo : World, wo = wr := ⟨_, rfl⟩
      obtain ⟨E, hE⟩ : ∃ E : Nat, E + 3 * j = t.size := ⟨t.size - 3 * j, by omega⟩
      have hEi : (t.size : Int) - 3 * (j : Int) = (E : Int) := by omega
      obtain ⟨f, hf1, hf2, hf3⟩ : ∃ f : Nat, f ≤ E ∧ E ≤ f + 3 ∧ (f = 0 ∨ f + 3 = E) := ⟨E - 3, by omega, by omega, by omega⟩
      have hmax : max ((E : Int) - 3) 0 = (f : Int) := by omega
      rw [hEi]
      have hE0 : (0 : Int) < (E : Int) := by omega
      have hEs : (E : Int) ≤ 16 := by omega
      go_wp2
      go_loop [5, 6] (fun d k => ∃ m : Nat, f ≤ m ∧ m ≤ E ∧ k = .int .i64 m ∧ d = .int .i64 (V ((t.data.toList.drop f).take (m - f)))) (fun _ k => E - (intOf k).toNat)
      case atStart => exact ⟨f, Nat.le_refl _, by omega, by first | rfl | (rw [← hmax]) | (simp [← hmax]), by simp [V]⟩
      case round =>
        obtain ⟨m, hm1, hm2, rfl, rfl⟩ := hrel
        by_cases hme : m < E
        · have hmt : m < t.size := by omega
          have hb : V ((t.data.toList.drop f).take (m - f)) < 65536 := by
            have h1 := V_lt ((t.data.toList.drop f).take (m - f))
            have h2 : ((t.data.toList.drop f).take (m - f)).length ≤ 2 := by rw [List.length_take]; omega
            have h3 : 256 ^ ((t.data.toList.drop f).take (m - f)).length ≤ 256 ^ 2 := Nat.pow_le_pow_right (by omega) h2
            have h4 : (256 : Nat) ^ 2 = 65536 := by decide
            omega
          have hn := Lib.hid (V_part t f m hm1 hmt)
          have hc := UInt8.toNat_lt t[m]
          generalize hv : V ((t.data.toList.drop f).take (m - f)) = v at *
          clear hv
          go_wp2
          go_round
          case rel => exact ⟨m + 1, by omega, by omega, by go_num, by rw [hn.out]; go_num⟩
          case measure => simp [intOf]; omega
        · obtain rfl : m = E := by omega
          have hb : V ((t.data.toList.drop f).take (m - f)) < 16777216 := V3 (by rw [List.length_take]; omega)
          have hcut := Lib.hid (V_cutAt t.data.toList f m j hm1 (by omega) (by omega))
          have HD := Lib.hid hD
          clear hD
          generalize hv : V ((t.data.toList.drop f).take (m - f)) = v at *
          clear hv
          go_wp2_with (at_builtin; refine wpList_append_own _ rfl _ _ 22 rfl w.heap.size 3 i0 (.int .i64 0) 1 8 Tryz.underlying22 hi0 hz0 hz1 hz2 rfl (by decide) _ _ _ rfl (hown.alloc _) ⟨wo.heap.size, 0, none⟩ 1 1 [_] rfl rfl (newsV _ _ _) (by simp [Value.oneCell']) (by unfold maxLen; omega) (by omega) (by have := hbr.size; simp; omega) ?_; intro v' w6 hown6 hgrow6 _)
          have HB6 : Below w.heap.size w w6 := (hbr.alloc hbr.size _).grown hgrow6 (by have := hbr.size; simp; omega) (ownB_ge hown)
          have HO6 := Lib.hid hown6
          clear hown6 hgrow6
          go_wp2
          refine ⟨⟨j + 1, l ++ [v], by go_num, by omega, by simp [hlen], ?_, hsm.snoc hb, by rw [dv_snoc]; exact HO6.out, HB6⟩, by simp [intOf]; omega⟩
          have e1 : t.size - 3 * j = m := by omega
          have e2 : t.size - 3 * (j + 1) = f := by omega
          rw [D_snoc, hlen, HD.out, e1, e2, hcut.out]
    · have hjt : t.size - 3 * j = 0 := by omega
      have hle : (t.size : Int) - 3 * (j : Int) ≤ 0 := by omega
      rw [hjt, List.drop_zero, T.1] at hD
      go_wp2
      go_ret
      refine ⟨⟨_, l, rfl, Dg.of (base := w.heap.size) (by rw [hlen]; exact hown), hD, hsm, by omega, fun k hk => ?_⟩, hbr⟩
      have := T.2 (3 * k) hk
      omega
end Go.EvProp
