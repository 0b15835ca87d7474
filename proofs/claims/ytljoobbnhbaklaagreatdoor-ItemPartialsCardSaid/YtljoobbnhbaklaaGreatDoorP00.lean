/- ItemPartials, one part of the proof: NilV, NilU, PartM, PartR0, PartN1, PartN2, PartW3, PartW4, PartW5, PartW6, PartW7, PartW8, PartW9, PartW10. -/
import Derived.Test.YtljoobbnhbaklaaGreatDoorProg
import Derived.WalkKit
import Derived.WalkSpells
import Derived.WalkLawsBesides
import Derived.Deep.QuietTactic
import Derived.BigQuiet
import Derived.Lib.Hide
import Derived.Lib.SmallJoins
import Derived.StillTailTactics
import Derived.Lib.IndexBytes
import Derived.Lib.SlBytesRow
set_option linter.all false
set_option maxRecDepth 100000
set_option maxHeartbeats 16000000
namespace Go.EvNil
def V (l : List UInt8) : Nat := l.foldl (fun n c => n * 256 + c.toNat) 0
theorem V_foldl (l : List UInt8) : ∀ n, l.foldl (fun n c => n * 256 + c.toNat) n = n * 256 ^ l.length + V l := by
 induction l with
 | nil => intro n; simp [V]
 | cons c l ih =>
   intro n
   simp only [List.foldl_cons, List.length_cons, V]
   rw [ih, ih (0 * 256 + c.toNat), Nat.pow_succ]
   have : n * (256 ^ l.length * 256) = n * 256 * 256 ^ l.length := by rw [Nat.mul_assoc, Nat.mul_comm 256]
   rw [this]
   simp only [Nat.zero_mul, Nat.zero_add, Nat.add_mul]
   omega
theorem V_cons (c : UInt8) (l : List UInt8) : V (c :: l) = c.toNat * 256 ^ l.length + V l := by
 show (c :: l).foldl _ 0 = _
 rw [List.foldl_cons, V_foldl]
 simp
theorem V_snoc (l : List UInt8) (c : UInt8) : V (l ++ [c]) = V l * 256 + c.toNat := by
 unfold V
 rw [List.foldl_append]
 rfl
theorem V_lt : ∀ (l : List UInt8), V l < 256 ^ l.length
 | [] => by simp [V]
 | c :: l => by
   rw [V_cons, List.length_cons, Nat.pow_succ]
   have h1 := V_lt l
   have h2 := UInt8.toNat_lt c
   have h3 : c.toNat * 256 ^ l.length <= 255 * 256 ^ l.length := Nat.mul_le_mul_right _ (by omega)
   omega
theorem V_drop (l : List UInt8) : ∀ (k : Nat), (∀ i, i < k -> l[i]? = some 0) -> V (l.drop k) = V l
 | 0, _ => by simp
 | k + 1, h => by
   have h0 := V_drop l k fun i hi => h i (by omega)
   have hk := h k (by omega)
   obtain ⟨hlt, hk⟩ := List.getElem?_eq_some_iff.1 hk
   rw [List.drop_eq_getElem_cons hlt, V_cons, hk] at h0
   simpa using h0
theorem V_len {c : UInt8} {l : List UInt8} (hc : c ≠ 0) {n : Nat} (h : V (c :: l) < 256 ^ n) : (c :: l).length <= n := by
 rw [V_cons] at h
 have h1 : 1 <= c.toNat := by
   have : c.toNat ≠ 0 := fun e => hc (UInt8.toNat_inj.1 (by simpa using e))
   omega
 have h2 : 256 ^ l.length <= c.toNat * 256 ^ l.length := Nat.le_mul_of_pos_left _ h1
 have h3 : 256 ^ l.length < 256 ^ n := by omega
 have := (Nat.pow_lt_pow_iff_right (by omega)).1 h3
 simp only [List.length_cons]
 omega
def Same (s t : ByteArray) : Prop := V t.data.toList = V s.data.toList /\ t.size <= s.size /\ ∀ n, V s.data.toList < 256 ^ n -> t.size <= n
theorem same_drop (s t : ByteArray) (k : Nat) (e1 : t.data.toList = s.data.toList.drop k) (hk : k <= s.data.toList.length) (hz : ∀ j, j < k -> s.data.toList[j]? = some 0) (he : ∀ h : k < s.data.toList.length, s.data.toList[k] ≠ 0) : Same s t := by
 have l1 : s.data.toList.length = s.size := Array.length_toList
 have l2 : t.data.toList.length = t.size := Array.length_toList
 have l3 : t.size = s.size - k := by rw [← l2, e1, List.length_drop, l1]
 refine ⟨by rw [e1]; exact V_drop _ _ hz, by omega, fun n hn => ?_⟩
 by_cases h : k < s.data.toList.length
 · rw [← V_drop _ _ hz, List.drop_eq_getElem_cons h] at hn
   have h2 := V_len (he h) hn
   rw [← List.drop_eq_getElem_cons h, ← e1, l2] at h2
   exact h2
 · omega
theorem zeros_snoc {l : List UInt8} {k : Nat} (hz : ∀ j, j < k -> l[j]? = some 0) (h : l[k]? = some 0) : ∀ j, j < k + 1 -> l[j]? = some 0 := fun j hj => by
 by_cases e : j = k
 · subst e; exact h
 · exact hz j (by omega)
def bl (n j : Nat) : List Int := (List.range j).map fun i => (((n / 2 ^ (56 - 8 * i)) % 256 : Nat) : Int)
theorem ofNat_mod (k : Nat) : (UInt8.ofNat (k % 256)).toNat = k % 256 := by
 rw [UInt8.toNat_ofNat']; omega
theorem V_bl (n : Nat) (h : n < 36028797018963968) : V ((bl n 8).map fun x => UInt8.ofNat x.toNat) = n := by
 have e : (bl n 8).map (fun x => UInt8.ofNat x.toNat) = [UInt8.ofNat (n / 72057594037927936 % 256), UInt8.ofNat (n / 281474976710656 % 256), UInt8.ofNat (n / 1099511627776 % 256), UInt8.ofNat (n / 4294967296 % 256), UInt8.ofNat (n / 16777216 % 256), UInt8.ofNat (n / 65536 % 256), UInt8.ofNat (n / 256 % 256), UInt8.ofNat (n / 1 % 256)] := rfl
 rw [e]
 simp only [V, List.foldl_cons, List.foldl_nil, ofNat_mod]
 omega
def rowC (W C : Nat -> Nat) (n i a : Nat) : Nat := if a < i /\ i - a < n then W a * C (i - a) else 0
def sumC (W C : Nat -> Nat) (n i : Nat) : Nat -> Nat
 | 0 => 0
 | k + 1 => sumC W C n i k + rowC W C n i k
def partC (W C : Nat -> Nat) (n a b i : Nat) : Nat := sumC W C n i a + (if a < i /\ i - a < b /\ i - a < n then W a * C (i - a) else 0)
theorem partC_start (W C : Nat -> Nat) (n a i : Nat) : partC W C n a 1 i = sumC W C n i a := by
 unfold partC
 rw [if_neg (by omega)]
 omega
theorem partC_le (W C : Nat -> Nat) (n a b i : Nat) : partC W C n a b i <= sumC W C n i (a + 1) := by
 unfold partC
 show _ <= sumC W C n i a + rowC W C n i a
 unfold rowC
 by_cases h : a < i /\ i - a < b /\ i - a < n
 · rw [if_pos h, if_pos ⟨h.1, h.2.2⟩]; omega
 · rw [if_neg h]; omega
theorem partC_step (W C : Nat -> Nat) (n a b : Nat) (h0 : 0 < b) (hb : b < n) : partC W C n a b (a + b) + W a * C b = partC W C n a (b + 1) (a + b) := by
 unfold partC
 have e : a + b - a = b := by omega
 rw [e, if_neg (by omega), if_pos (by omega)]
 omega
theorem partC_mono (W C : Nat -> Nat) (n a b i : Nat) : partC W C n a b i <= partC W C n a (b + 1) i := by
 unfold partC
 by_cases h : a < i /\ i - a < b /\ i - a < n
 · rw [if_pos h, if_pos ⟨h.1, by omega, h.2.2⟩]; omega
 · rw [if_neg h]; omega
theorem sumC_le (W C : Nat -> Nat) (n i : Nat) : ∀ (k m : Nat), k <= m -> sumC W C n i k <= sumC W C n i m
 | k, 0, h => by have : k = 0 := by omega
                 subst this; exact Nat.le_refl _
 | k, m + 1, h => by
   by_cases e : k = m + 1
   · subst e; exact Nat.le_refl _
   · exact Nat.le_trans (sumC_le W C n i k m (by omega)) (Nat.le_add_right _ _)
end Go.EvNil
namespace Go.EvNil
structure Rl where
 h : Nat
 op : ByteArray
 pa : ByteArray
 args : List Nat
def one1 (i : Nat) : Nat := if i = 1 then 1 else 0
def convL (U : Nat -> Nat -> Nat) : List Nat -> (Nat -> Nat) -> Nat -> Nat
 | [], W => W
 | a :: l, W => convL U l (fun i => sumC W (U a) 6 i 10)
def sumR (U : Nat -> Nat -> Nat) (s i : Nat) : List Rl -> Nat
 | [] => 0
 | r :: l => (if r.h = s then convL U r.args one1 i else 0) + sumR U s i l
def numP (U : Nat -> Nat -> Nat) : List Nat -> (Nat -> Nat) -> Prop
 | [], W => ∀ i, i < 10 -> W i < 281474976710656
 | a :: l, W => (∀ i, i < 10 -> W i < 16777216) /\ (∀ i, i < 10 -> sumC W (U a) 6 i 10 < 281474976710656) /\ numP U l (fun i => sumC W (U a) 6 i 10)
structure Need (U : Nat -> Nat -> Nat) (rs : List Rl) : Prop where
 sum : ∀ s i, i < 6 -> sumR U s i rs <= U s i
 num : ∀ r ∈ rs, numP U r.args one1
 lt : ∀ s i, U s i < 2147483648
theorem sumR_sub {U : Nat -> Nat -> Nat} {s i : Nat} {a b : List Rl} (h : a.Sublist b) : sumR U s i a <= sumR U s i b := by
 induction h with
 | slnil => exact Nat.le_refl _
 | cons x _ ih => exact Nat.le_trans ih (Nat.le_add_left _ _)
 | cons_cons x _ ih => exact Nat.add_le_add_left ih _
theorem rowC_mono {W W' C C' : Nat -> Nat} (hW : ∀ i, i < 10 -> W i <= W' i) {n n' i a : Nat} (hC : ∀ i, i < n -> C i <= C' i) (hn : n <= n') (ha : a < 10) : rowC W C n i a <= rowC W' C' n' i a := by
 unfold rowC
 by_cases h : a < i /\ i - a < n
 · rw [if_pos h, if_pos ⟨h.1, Nat.lt_of_lt_of_le h.2 hn⟩]
   exact Nat.mul_le_mul (hW a ha) (hC _ h.2)
 · rw [if_neg h]; exact Nat.zero_le _
theorem sumC_mono {W W' C C' : Nat -> Nat} (hW : ∀ i, i < 10 -> W i <= W' i) {n n' i : Nat} (hC : ∀ i, i < n -> C i <= C' i) (hn : n <= n') : ∀ k, k <= 10 -> sumC W C n i k <= sumC W' C' n' i k
 | 0, _ => Nat.le_refl _
 | k + 1, h => Nat.add_le_add (sumC_mono hW hC hn k (by omega)) (rowC_mono hW hC hn (by omega))
theorem convL_snoc (U : Nat -> Nat -> Nat) : ∀ (l : List Nat) (a : Nat) (W : Nat -> Nat), convL U (l ++ [a]) W = fun i => sumC (convL U l W) (U a) 6 i 10
 | [], a, W => rfl
 | b :: l, a, W => convL_snoc U l a _
theorem numP_at (U : Nat -> Nat -> Nat) : ∀ (l : List Nat) (a : Nat) (m : List Nat) (W : Nat -> Nat), numP U (l ++ a :: m) W -> (∀ i, i < 10 -> convL U l W i < 16777216) /\ (∀ i, i < 10 -> sumC (convL U l W) (U a) 6 i 10 < 281474976710656)
 | [], a, m, W, h => ⟨h.1, h.2.1⟩
 | b :: l, a, m, W, h => numP_at U l a m _ h.2.2
theorem numP_end (U : Nat -> Nat -> Nat) : ∀ (l : List Nat) (W : Nat -> Nat), numP U l W -> ∀ i, i < 10 -> convL U l W i < 281474976710656
 | [], W, h => h
 | b :: l, W, h => numP_end U l _ h.2.2
def cntB (U : Nat -> Nat -> Nat) (rs : List Rl) (z k s i : Nat) : Nat := if i < z then U s i else if i = z then sumR U s i (rs.take k) else 0
theorem cntB_le {U : Nat -> Nat -> Nat} {rs : List Rl} (n : Need U rs) (z k s i : Nat) (hi : i < 6) : cntB U rs z k s i <= U s i := by
 unfold cntB
 split
 · exact Nat.le_refl _
 · split
   · exact Nat.le_trans (sumR_sub (List.take_sublist k rs)) (n.sum s i hi)
   · exact Nat.zero_le _
theorem cntB_next {U : Nat -> Nat -> Nat} {rs : List Rl} (n : Need U rs) (z s i : Nat) (hi : i < 6) : cntB U rs z rs.length s i <= cntB U rs (z + 1) 0 s i := by
 by_cases h : i < z + 1
 · have e : cntB U rs (z + 1) 0 s i = U s i := by unfold cntB; rw [if_pos h]
   rw [e]
   exact cntB_le n z _ s i hi
 · unfold cntB
   rw [if_neg (by omega), if_neg (by omega)]
   exact Nat.zero_le _
theorem sumR_snoc (U : Nat -> Nat -> Nat) (s i : Nat) (r : Rl) : ∀ l : List Rl, sumR U s i (l ++ [r]) = sumR U s i l + (if r.h = s then convL U r.args one1 i else 0)
 | [] => by simp [sumR]
 | q :: l => by simp only [List.cons_append, sumR, sumR_snoc U s i r l]; omega
theorem cntB_step {U : Nat -> Nat -> Nat} {rs : List Rl} (z k s i : Nat) (hk : k < rs.length) : cntB U rs z (k + 1) s i = cntB U rs z k s i + (if i = z /\ rs[k].h = s then convL U rs[k].args one1 i else 0) := by
 unfold cntB
 by_cases h : i < z
 · rw [if_pos h, if_pos h, if_neg (by omega)]; rfl
 · rw [if_neg h, if_neg h]
   by_cases e : i = z
   · rw [if_pos e, if_pos e, List.take_succ_eq_append_getElem hk, sumR_snoc]
     by_cases e2 : rs[k].h = s
     · rw [if_pos e2, if_pos ⟨e, e2⟩]
     · rw [if_neg e2, if_neg fun q => e2 q.2]
   · rw [if_neg e, if_neg e, if_neg fun q => e q.1]
def tabU (t : List (List Nat)) (s i : Nat) : Nat := (t.getD s []).getD i 0
def all10 (p : Nat -> Bool) : Bool := (List.range 10).all p
theorem all10_at {p : Nat -> Bool} (h : all10 p = true) {i : Nat} (hi : i < 10) : p i = true := List.all_eq_true.1 h i (List.mem_range.2 hi)
def numB (U : Nat -> Nat -> Nat) : List Nat -> (Nat -> Nat) -> Bool
 | [], W => all10 fun i => Nat.blt (W i) 281474976710656
 | a :: l, W => all10 (fun i => Nat.blt (W i) 16777216) && all10 (fun i => Nat.blt (sumC W (U a) 6 i 10) 281474976710656) && numB U l (fun i => sumC W (U a) 6 i 10)
theorem numB_ok (U : Nat -> Nat -> Nat) : ∀ (l : List Nat) (W : Nat -> Nat), numB U l W = true -> numP U l W
 | [], W, h => fun i hi => by simpa using all10_at h hi
 | a :: l, W, h => by
   simp only [numB, Bool.and_eq_true] at h
   exact ⟨fun i hi => by simpa using all10_at h.1.1 hi, fun i hi => by simpa using all10_at h.1.2 hi, numB_ok U l _ h.2⟩
def needB (t : List (List Nat)) (rs : List Rl) : Bool :=
 (List.range t.length).all (fun s => (List.range 6).all fun i => Nat.ble (sumR (tabU t) s i rs) (tabU t s i)) && rs.all (fun r => Nat.blt r.h t.length && numB (tabU t) r.args one1) && t.all (fun l => l.all fun n => Nat.blt n 2147483648)
theorem sumR_none {U : Nat -> Nat -> Nat} {s i : Nat} : ∀ {rs : List Rl}, (∀ r ∈ rs, r.h ≠ s) -> sumR U s i rs = 0
 | [], _ => rfl
 | r :: l, h => by
   simp only [sumR]
   rw [if_neg (h r (List.mem_cons_self ..)), sumR_none fun q hq => h q (List.mem_cons_of_mem _ hq)]
theorem tabU_lt {t : List (List Nat)} (h : t.all (fun l => l.all fun n => Nat.blt n 2147483648) = true) (s i : Nat) : tabU t s i < 2147483648 := by
 unfold tabU
 rw [List.getD_eq_getElem?_getD, List.getD_eq_getElem?_getD]
 cases hs : t[s]? with
 | none => simp
 | some l =>
   simp only [Option.getD_some]
   cases hi : l[i]? with
   | none => simp
   | some n =>
     have := List.all_eq_true.1 (List.all_eq_true.1 h l (List.mem_of_getElem? hs)) n (List.mem_of_getElem? hi)
     simpa using this
theorem needB_ok {t : List (List Nat)} {rs : List Rl} (h : needB t rs = true) : Need (tabU t) rs := by
 simp only [needB, Bool.and_eq_true] at h
 obtain ⟨⟨h1, h2⟩, h3⟩ := h
 refine ⟨fun s i hi => ?_, fun r hr => ?_, tabU_lt h3⟩
 · by_cases hs : s < t.length
   · have := List.all_eq_true.1 (List.all_eq_true.1 h1 s (List.mem_range.2 hs)) i (List.mem_range.2 hi)
     exact Nat.le_of_ble_eq_true this
   · rw [sumR_none fun r hr e => ?_]
     · exact Nat.zero_le _
     · have := List.all_eq_true.1 h2 r hr
       simp only [Bool.and_eq_true] at this
       have h4 : r.h < t.length := by simpa using this.1
       omega
 · have := List.all_eq_true.1 h2 r hr
   simp only [Bool.and_eq_true] at this
   exact numB_ok _ _ _ this.2
end Go.EvNil
namespace Go.EvNil
open Go Go.Proofs Go.RowKit
theorem bcell {W w1 : World} (hb : Below W.heap.size W w1) : (∀ b o, b < W.heap.size -> w1.cell? ⟨b, o, none⟩ = W.cell? ⟨b, o, none⟩) /\ (∀ b o, b < W.heap.size -> w1.frozen? ⟨b, o, none⟩ = W.frozen? ⟨b, o, none⟩) :=
 ⟨fun b o h => hb.cell (p := ⟨b, o, none⟩) h, fun b o h => hb.frozen (p := ⟨b, o, none⟩) h⟩
theorem cellOf {w : World} {b i : Nat} {cs : Array Value} {t : TypeId} {v : Value} (h : w.heap[b]? = some (.cells cs t (0, 0))) (hi : cs[i]? = some v) : w.cell? ⟨b, i, none⟩ = some v := by simp [World.cell?, h, hi]
theorem heapNew (w : World) (o : Obj) : (w.alloc o).heap[w.heap.size]? = some o := heap_alloc_new w o
theorem heapOld (w : World) (o : Obj) {k : Nat} (h : k < w.heap.size) : (w.alloc o).heap[k]? = w.heap[k]? := Below.heap_alloc w o k h
theorem sizeNew (w : World) (o : Obj) : (w.alloc o).heap.size = w.heap.size + 1 := by simp
theorem heap_lt' {w : World} {b : Nat} {o : Obj} (h : w.heap[b]? = some o) : b < w.heap.size := (Array.getElem?_eq_some_iff.1 h).1
structure Sample where
 nm : ByteArray
 ver : Nat
 cols : List (ByteArray × Nat)
 syms : List (ByteArray × Nat)
 rules : List Rl
 st : Nat
 U : List (List Nat)
structure SOk (S : Sample) : Prop where
 nm : S.nm.size <= maxLen
 ver : S.ver <= 1000000000
 cols0 : 0 < S.cols.length
 cols : S.cols.length <= 8
 cz : ∀ c ∈ S.cols, c.1.size <= maxLen
 syms0 : 0 < S.syms.length
 syms : S.syms.length <= 12
 sz : ∀ c ∈ S.syms, c.1.size <= maxLen
 rules : S.rules.length <= 40
 st : S.st < S.syms.length
 need : Need (tabU S.U) S.rules
 rule : ∀ r ∈ S.rules, r.h < S.syms.length /\ r.args.length <= 3 /\ (∀ a ∈ r.args, a < S.syms.length) /\ r.op.size <= maxLen /\ r.pa.size <= maxLen
def ColsAt (w : World) (ca : Option Addr) (cs : List (ByteArray × Nat)) : Prop := ∃ b o arr fz, ca = some ⟨b, o, none⟩ /\ w.heap[b]? = some (.cells arr 131 fz) /\ ∀ i (hi : i < cs.length), arr[o + i * 2]? = some (.string cs[i].1) /\ arr[o + i * 2 + 1]? = some (.int .i64 cs[i].2)
def SymsAt (w : World) (sa : Option Addr) (ss : List (ByteArray × Nat)) (M : Nat -> Nat) : Prop := ∃ b o, sa = some ⟨b, o, none⟩ /\ b < w.heap.size /\ ∀ i (hi : i < ss.length), w.cell? ⟨b, o + i * 3, none⟩ = some (.string ss[i].1) /\ w.cell? ⟨b, o + i * 3 + 1, none⟩ = some (.int .i64 ss[i].2) /\ w.cell? ⟨b, o + i * 3 + 2, none⟩ = some (.int .i64 (M i))
def ArgsAt (w : World) (aa : Option Addr) (l : List Nat) : Prop := 0 < l.length -> ∃ b o, aa = some ⟨b, o, none⟩ /\ b < w.heap.size /\ ∀ i (hi : i < l.length), w.cell? ⟨b, o + i, none⟩ = some (.int .i64 l[i])
structure RlAt (w : World) (b o : Nat) (r : Rl) (aa : Option Addr) (ac : Nat) : Prop where
 c0 : w.cell? ⟨b, o, none⟩ = some (.int .i64 r.h)
 c1 : w.cell? ⟨b, o + 1, none⟩ = some (.string r.op)
 c2 : w.cell? ⟨b, o + 2, none⟩ = some (.string r.pa)
 c3 : w.cell? ⟨b, o + 3, none⟩ = some (.slice aa r.args.length ac)
 args : ArgsAt w aa r.args
 sm : ∃ ab ao, aa = some ⟨ab, ao, none⟩
def RulesAt (w : World) (ra : Option Addr) (rs : List Rl) : Prop := ∃ b o, ra = some ⟨b, o, none⟩ /\ b < w.heap.size /\ ∀ i (hi : i < rs.length), ∃ aa ac, RlAt w b (o + i * 4) rs[i] aa ac
theorem ColsAt.below {w w' : World} {ca : Option Addr} {cs : List (ByteArray × Nat)} (h : ColsAt w ca cs) (hb : Below w.heap.size w w') : ColsAt w' ca cs := by
 obtain ⟨b, o, arr, fz, e, hl, hc⟩ := h
 exact ⟨b, o, arr, fz, e, by rw [hb.block b (heap_lt' hl)]; exact hl, hc⟩
theorem SymsAt.below {w w' : World} {ca : Option Addr} {cs : List (ByteArray × Nat)} {M : Nat -> Nat} (h : SymsAt w ca cs M) (hb : Below w.heap.size w w') : SymsAt w' ca cs M := by
 obtain ⟨b, o, e, hl, hc⟩ := h
 exact ⟨b, o, e, Nat.lt_of_lt_of_le hl hb.size, fun i hi => by rw [hb.cell hl, hb.cell hl, hb.cell hl]; exact hc i hi⟩
theorem ArgsAt.below {w w' : World} {aa : Option Addr} {l : List Nat} (h : ArgsAt w aa l) (hb : Below w.heap.size w w') : ArgsAt w' aa l := fun h0 => by
 obtain ⟨b, o, e, hl, hc⟩ := h h0
 exact ⟨b, o, e, Nat.lt_of_lt_of_le hl hb.size, fun i hi => by rw [hb.cell hl]; exact hc i hi⟩
theorem RlAt.below {w w' : World} {b o : Nat} {r : Rl} {aa : Option Addr} {ac : Nat} (h : RlAt w b o r aa ac) (hl : b < w.heap.size) (hb : Below w.heap.size w w') : RlAt w' b o r aa ac :=
 ⟨by rw [hb.cell hl]; exact h.c0, by rw [hb.cell hl]; exact h.c1, by rw [hb.cell hl]; exact h.c2, by rw [hb.cell hl]; exact h.c3, h.args.below hb, h.sm⟩
theorem RulesAt.below {w w' : World} {ra : Option Addr} {rs : List Rl} (h : RulesAt w ra rs) (hb : Below w.heap.size w w') : RulesAt w' ra rs := by
 obtain ⟨b, o, e, hl, hc⟩ := h
 exact ⟨b, o, e, Nat.lt_of_lt_of_le hl hb.size, fun i hi => by obtain ⟨aa, ac, h⟩ := hc i hi; exact ⟨aa, ac, h.below hl hb⟩⟩
def Drawn (w w' : World) : Prop := ∃ n, w' = w.drewN n
theorem Drawn.below {w w' : World} (h : Drawn w w') (B : Nat) : Below B w w' := by
 obtain ⟨n, rfl⟩ := h
 exact ⟨rfl, rfl, rfl, Nat.le_refl _, fun _ _ => rfl⟩
end Go.EvNil
namespace Go.EvPart
open Go Go.Proofs Go.RowKit Go.EvNil
def RetIn (n : Nat) (e : Ending) : Prop := ∃ r : Nat, r < n /\ e = .returned (.int .i64 r)
theorem mod14_any (x : Int) (n : Nat) (w : World) (hn : 0 < n) (hb : n <= 1000000) : Calls Tryz.prog 20 #[.int .i64 x, .int .i64 n] w fun e w' => RetIn n e /\ w = w' := by
 have hne : ((n : Int) == 0) = false := by simp; omega
 have h1 := Int.tmod_lt_of_pos x (show (0 : Int) < n by omega)
 have h2 := Int.lt_tmod_of_pos x (show (0 : Int) < n by omega)
 by_cases h : x.tmod n < 0
 · have e1 : decide (x.tmod n < 0) = true := by simpa using h
   have h3 : wrap64 (x.tmod n + n) = x.tmod n + n := IntWalk.wrap64_in _ ⟨by omega, by omega⟩
   go_enter Tryz.func20, Tryz.ntmps20
   go_wp2
   go_ret
   exact ⟨⟨(x.tmod n + n).toNat, by omega, by rw [Int.toNat_of_nonneg (by omega)]; first | rfl | simp [h3]⟩, rfl⟩
 · have e1 : decide (x.tmod n < 0) = false := by simpa using h
   go_enter Tryz.func20, Tryz.ntmps20
   go_wp2
   go_ret
   exact ⟨⟨(x.tmod n).toNat, by omega, by rw [Int.toNat_of_nonneg (by omega)]; rfl⟩, rfl⟩
end Go.EvPart
namespace Go.EvPart.N
open Go Go.Proofs Go.RowKit Go.Lib Go.EvNil
def Nums (w : World) (a : Option Addr) (n : Nat) : Prop := n = 0 ∨ ∃ b o, a = some ⟨b, o, none⟩ /\ ∀ i, i < n -> ∃ x : Int, w.cell? ⟨b, o + i, none⟩ = some (.int .i64 x)
theorem rem_bd (x n : Int) (hn : 0 < n) (hb : n <= 2000000000000001) : 0 <= (wrap64 (x.tmod n + n)).tmod n /\ (wrap64 (x.tmod n + n)).tmod n < n := by
 have h1 := Int.tmod_lt_of_pos x hn
 have h2 : -n < x.tmod n := by
   have := Int.lt_tmod_of_pos x hn
   omega
 have h3 : wrap64 (x.tmod n + n) = x.tmod n + n := IntWalk.wrap64_in _ ⟨by omega, by omega⟩
 rw [h3]
 exact ⟨Int.tmod_nonneg _ (by omega), Int.tmod_lt_of_pos _ hn⟩
def RetIn (n : Int) (e : Ending) : Prop := ∃ r : Int, 0 <= r /\ r < n /\ e = .returned (.int .i64 r)
def Num (w : World) (b : Nat) (a : Option Addr) (n : Nat) : Prop := ∃ c K : Nat, w.heap[b]? = some (.cells #[.slice a n c, .int .i64 K] 49 (0, 0)) /\ Nums w a n /\ (∀ q, a = some q -> q.block ≠ b)
def Nexts (w : World) (b : Nat) (a : Option Addr) (len : Nat) (n : Int) (e : Ending) (w' : World) : Prop :=
 RetIn n e /\ Num w' b a len /\ w'.heap.size = w.heap.size /\ (∀ k, k ≠ b -> w'.heap[k]? = w.heap[k]?) /\ w'.os = w.os /\ w'.tape = w.tape /\ w'.output = w.output
theorem next_any (w : World) (b : Nat) (a : Option Addr) (len : Nat) (n : Int) (hn : 0 < n) (hb : n <= 2000000000000001) (hm : len <= maxLen) (h : Num w b a len) : Calls Tryz.prog 14 #[.pointer (some ⟨b, 0, none⟩), .int .i64 n] w fun e w' => Nexts w b a len n e w' := by
 obtain ⟨c, K, hblk, hl, hne⟩ := h
 unfold maxLen at hm
 have c0 : w.cell? ⟨b, 0, none⟩ = some (.slice a len c) := by simp [World.cell?, hblk]
 have c1 : w.cell? ⟨b, 1, none⟩ = some (.int .i64 K) := by simp [World.cell?, hblk]
 have f1 : w.frozen? ⟨b, 1, none⟩ = false := by simp [World.frozen?, hblk]
 by_cases hK : len <= K
 · have hd : decide ((len : Int) <= (K : Int)) = true := by simpa using hK
   go_enter Tryz.func14, Tryz.ntmps14
   go_wp2
   go_quiet (fail)
   go_wp2
   go_ret
   exact ⟨⟨0, by omega, by omega, rfl⟩, ⟨c, K, hblk, hl, hne⟩, rfl, fun _ _ => rfl, rfl, rfl, rfl⟩
 · have hd : decide ((len : Int) <= (K : Int)) = false := by simp; omega
   have hd2 : decide (n < 1) = false := by simp; omega
   rcases hl with hl | ⟨lb, lo, rfl, hcell⟩
   · omega
   · obtain ⟨x, hx⟩ := hcell K (by omega)
     have hne' := hne _ rfl
     have hnz : (n == 0) = false := by simp; omega
     have hr := rem_bd x n hn hb
     go_enter Tryz.func14, Tryz.ntmps14
     go_wp2
     go_quiet (fail)
     go_wp2
     have hw1 : ∃ w1, w1 = (w.drewN nq).setCell ⟨b, 1, none⟩ (Value.int .i64 (↑K + 1)) := ⟨_, rfl⟩
     obtain ⟨w1, hw1⟩ := hw1
     have Hb1 : Hid (w1.heap[b]? = some (.cells #[.slice (some ⟨lb, lo, none⟩) len c, .int .i64 (↑K + 1)] 49 (0, 0))) := by
       subst hw1; exact Joins.block_setCell (w := w.drewN nq) hblk _
     have Ho1 : Hid (∀ k, k ≠ b -> w1.heap[k]? = w.heap[k]?) := fun k hk => by
       subst hw1; rw [Below.heap_setCell _ _ _ _ hk]; rfl
     have Hz1 : Hid (w1.heap.size = w.heap.size /\ w1.os = w.os /\ w1.tape = w.tape /\ w1.output = w.output) := by
       have hb0 := (Below.refl 0 (w.drewN nq)).setCell (p := ⟨b, 1, none⟩) (Nat.zero_le _) (Value.int .i64 (↑K + 1))
       subst hw1
       exact ⟨by simp, hb0.os, hb0.tape, hb0.output⟩
     rw [← hw1]
     have d0 : w1.cell? ⟨b, 0, none⟩ = some (.slice (some ⟨lb, lo, none⟩) len c) := by simp [World.cell?, Hb1.out]
     have d1 : w1.cell? ⟨b, 1, none⟩ = some (.int .i64 (↑K + 1)) := by simp [World.cell?, Hb1.out]
     have d2 : w1.cell? ⟨lb, lo + K, none⟩ = some (.int .i64 x) := by rw [World.cell?_of_block (w := w) (Ho1.out lb hne')]; exact hx
     have i1 : 0 <= (K : Int) + 1 - 1 := by omega
     have i2 : ((K : Int) + 1 - 1) < len := by omega
     have i3 : ((K : Int) + 1 - 1).toNat = K := by omega
     clear c0 c1 f1 hd hd2 hw1 hblk hx
     go_quiet (fail)
     go_wp2
     go_ret
     exact ⟨⟨_, hr.1, hr.2, rfl⟩, ⟨c, K + 1, by rw [Int.natCast_add]; exact Hb1.out, .inr ⟨lb, lo, rfl, fun i hi => by obtain ⟨y, hy⟩ := hcell i hi; exact ⟨y, by rw [← hy]; exact World.cell?_of_block (w := w) (Ho1.out lb hne')⟩⟩, hne⟩, Hz1.out.1, Ho1.out, Hz1.out.2.1, Hz1.out.2.2.1, Hz1.out.2.2.2⟩
end Go.EvPart.N
namespace Go.EvPart.N
open Go Go.Proofs Go.RowKit Go.Lib Go.EvNil
end Go.EvPart.N
namespace Go.EvPart.N
open Go Go.Proofs Go.RowKit Go.EvNil
def RetB (e : Ending) : Prop := ∃ r : Bool, e = .returned (.bool r)
end Go.EvPart.N
namespace Go.EvPart.N
open Go Go.Proofs Go.RowKit Go.EvNil
theorem kinds_any (w : World) : Calls Tryz.prog 148 #[] w fun e w' => e = .returned (.slice (some ⟨w.heap.size, 0, none⟩) 6 6) /\ w' = w.alloc (.cells #[.string ⟨#[]⟩, .string ⟨#[116, 101, 120, 116]⟩, .string ⟨#[110, 117, 109, 98, 101, 114]⟩, .string ⟨#[100, 97, 116, 101]⟩, .string ⟨#[98, 111, 111, 108]⟩, .string ⟨#[116, 97, 98, 108, 101]⟩] 9) := by
 go_enter Tryz.func148, Tryz.ntmps148
 go_wp2
 go_ret
 exact ⟨rfl, rfl⟩
end Go.EvPart.N
namespace Go.EvPart.N
open Go Go.Proofs Go.RowKit Go.EvNil
def Ints (w : World) (a : Option Addr) (n : Nat) : Prop := n <= 1000 /\ (0 < n -> ∃ b o, a = some ⟨b, o, none⟩ /\ b < w.heap.size /\ ∀ i, i < n -> ∃ x : Int, w.cell? ⟨b, o + i, none⟩ = some (.int .i64 x))
theorem ints_any (a b : Option Addr) (m n c d : Nat) (w : World) (ha : Ints w a m) (hb : Ints w b n) : Calls Tryz.prog 218 #[.slice a m c, .slice b n d] w fun e w' => RetB e /\ Drawn w w' := by
 obtain ⟨h1, ha⟩ := ha
 obtain ⟨h2, hb⟩ := hb
 by_cases hmn : m = n
 · subst hmn
   have he : ((m : Int) != (m : Int)) = false := by simp
   go_enter Tryz.func218, Tryz.ntmps218
   go_wp2
   go_loopw [5] (fun i wr => ∃ k : Nat, k <= m /\ i = .int .i64 k /\ Drawn w wr) (fun i _ => m - (intOf i).toNat)
   case atStart => exact ⟨0, Nat.zero_le _, rfl, 0, rfl⟩
   case round =>
     obtain ⟨k, hk, rfl, q, rfl⟩ := hrel
     by_cases hlt : k < m
     · obtain ⟨b1, o1, rfl, hb1, hc1⟩ := ha (by omega)
       obtain ⟨b2, o2, rfl, hb2, hc2⟩ := hb (by omega)
       obtain ⟨x, hx⟩ := hc1 k hlt
       obtain ⟨y, hy⟩ := hc2 k hlt
       have i1 : (0 : Int) <= (k : Int) := by omega
       have i2 : (k : Int) < (m : Int) := by omega
       clear hc1 hc2 ha hb
       go_wp2
       go_quiet (fail)
       go_wp2
       all_goals first
         | (go_roundw
            case rel => exact ⟨k + 1, by omega, by go_num, _, (by first | rfl | exact World.drewN_drewN _ _ _)⟩
            case measure => simp [intOf]; omega)
         | (go_ret; exact ⟨⟨_, rfl⟩, _, (by first | rfl | exact World.drewN_drewN _ _ _)⟩)
     · go_wp2
       all_goals (go_ret; exact ⟨⟨_, rfl⟩, q, rfl⟩)
 · have he : ((m : Int) != (n : Int)) = true := by simp; omega
   go_enter Tryz.func218, Tryz.ntmps218
   go_wp2
   all_goals (go_ret; exact ⟨⟨_, rfl⟩, 0, rfl⟩)
theorem Ints.below {w w' : World} {a : Option Addr} {n : Nat} (h : Ints w a n) (hb : Below w.heap.size w w') : Ints w' a n :=
 ⟨h.1, fun hn => by
   obtain ⟨b, o, e, hl, hc⟩ := h.2 hn
   exact ⟨b, o, e, Nat.lt_of_lt_of_le hl hb.size, fun i hi => by obtain ⟨x, hx⟩ := hc i hi; exact ⟨x, by rw [hb.cell hl]; exact hx⟩⟩⟩
end Go.EvPart.N
namespace Go.EvPart.N
open Go Go.Proofs Go.RowKit Go.EvNil
end Go.EvPart.N
namespace Go.EvPart.N
open Go Go.Proofs Go.RowKit Go.EvNil
def Boxes (w2 : World) (g r : Nat) (G R : Array Value) : Prop := g < w2.heap.size /\ r < w2.heap.size /\ w2.heap[g]? = some (.cells G 29 (0, 0)) /\ w2.heap[r]? = some (.cells R 76 (0, 0))
theorem Boxes.below {w w' : World} {g r : Nat} {G R : Array Value} (h : Boxes w g r G R) (hb : Below w.heap.size w w') : Boxes w' g r G R :=
 ⟨Nat.lt_of_lt_of_le h.1 hb.size, Nat.lt_of_lt_of_le h.2.1 hb.size, by rw [hb.block g h.1]; exact h.2.2.1, by rw [hb.block r h.2.1]; exact h.2.2.2⟩
end Go.EvPart.N
namespace Go.EvPart.N
open Go Go.Proofs Go.RowKit Go.EvNil
theorem info9 : (Tryz.prog.info? 9).map (fun i => (i.zero, i.size, i.bytes)) = some (some (.string ⟨#[]⟩), 1, 16) := by kernel_rfl
def Box (w : World) (g : Nat) (G : Array Value) : Prop := g < w.heap.size /\ w.heap[g]? = some (.cells G 29 (0, 0))
theorem Box.below {w w' : World} {g : Nat} {G : Array Value} {B : Nat} (h : Box w g G) (hg : g < B) (hb : Below B w w') : Box w' g G :=
 ⟨Nat.lt_of_lt_of_le h.1 hb.size, by rw [hb.block g hg]; exact h.2⟩
theorem news1 (w : World) (s : ByteArray) : ∀ (j : Nat) (u : Value), [Value.string s][j]? = some u -> (w.alloc (.cells #[.string s] 9)).cell? ((⟨w.heap.size, 0, none⟩ : Addr).add j) = some u := by
 intro j u hj
 cases j with
 | zero =>
   simp at hj
   subst hj
   exact cellOf (i := 0) (heapNew w _) rfl
 | succ j => simp at hj
end Go.EvPart.N
namespace Go.EvPart.N
open Go Go.Proofs Go.RowKit Go.EvNil
def RetSame (s : ByteArray) (e : Ending) : Prop := ∃ t : ByteArray, Same s t /\ e = .returned (.string t)
theorem byte0 {c : UInt8} (h : (((c.toNat : Nat) : Int) == 0) = true) : c = 0 := by
 have : c.toNat = 0 := by simpa using h
 exact UInt8.toNat_inj.1 (by simpa using this)
theorem bytes_get (s : ByteArray) (k : Nat) (h : k < s.size) : s.data.toList[k]? = some s[k] := by
 rw [List.getElem?_eq_getElem (by rw [Array.length_toList]; exact h)]
 rfl
theorem canon_same (s : ByteArray) (k : Nat) (hk : k <= s.size) (hz : ∀ j, j < k -> s.data.toList[j]? = some 0) (he : ∀ h : k < s.size, s[k] ≠ 0) : Same s (s.extract k s.size) :=
 same_drop s _ k (Lib.extract_to_end s k) (by rw [Array.length_toList]; exact hk) hz fun h => he (by rw [Array.length_toList] at h; exact h)
theorem canon_any (s : ByteArray) (w : World) (hs : s.size <= maxLen) : Calls Tryz.prog 159 #[.string s] w fun e w' => RetSame s e /\ w = w' := by
 unfold maxLen at hs
 go_enter Tryz.func159, Tryz.ntmps159
 go_wp2
 go_loop [3] (fun i => ∃ k : Nat, k <= s.size /\ i = .int .i64 k /\ Hid (∀ j, j < k -> s.data.toList[j]? = some 0)) (fun i => s.size - (intOf i).toNat)
 case atStart => exact ⟨0, Nat.zero_le _, rfl, fun j hj => by omega⟩
 case round =>
   obtain ⟨k, hk, rfl, hz⟩ := hrel
   by_cases hlt : k < s.size
   · go_wp2
     · have hq : ((((s[k]'hlt).toNat : Nat) : Int) == 0) = true := by assumption
       go_round
       case rel => exact ⟨k + 1, by omega, by go_num, zeros_snoc hz.out (by rw [bytes_get s k hlt, byte0 hq])⟩
       case measure => simp [intOf]; omega
     · have hq : ((((s[k]'hlt).toNat : Nat) : Int) == 0) = false := by assumption
       go_ret
       exact ⟨⟨_, canon_same s k hk hz.out (fun h e => by rw [e] at hq; simp at hq), rfl⟩, rfl⟩
   · go_wp2
     go_ret
     exact ⟨⟨_, canon_same s k hk hz.out (fun h => absurd h hlt), rfl⟩, rfl⟩
theorem V_take_lt (l : List UInt8) (k : Nat) (h : k <= 6) : V (l.take k) < 281474976710656 := by
 have h1 := V_lt (l.take k)
 have h2 : (l.take k).length <= 6 := by rw [List.length_take]; omega
 have h3 : 256 ^ (l.take k).length <= 256 ^ 6 := Nat.pow_le_pow_right (by omega) h2
 have h4 : (256 : Nat) ^ 6 = 281474976710656 := by decide
 omega
theorem V_take_succ (t : ByteArray) (k : Nat) (h : k < t.size) : V (t.data.toList.take (k + 1)) = V (t.data.toList.take k) * 256 + t[k].toNat := by
 rw [List.take_succ_eq_append_getElem (by rw [Array.length_toList]; exact h), V_snoc]
 rfl
def RetV (n : Nat) (e : Ending) : Prop := e = .returned (.tuple #[.int .i64 n, .bool true])
theorem int_small (s : ByteArray) (w : World) (hs : s.size <= maxLen) (hV : V s.data.toList < 256 ^ 7) : Calls Tryz.prog 161 #[.string s] w fun e w' => RetV (V s.data.toList) e /\ w = w' := by
 have HV := Lib.hid hV
 clear hV
 go_enter Tryz.func161, Tryz.ntmps161
 go_wp2_with (go_at_call 159; refine (canon_any s _ hs).mono ?_; rintro e w' ⟨⟨t, T, rfl⟩, rfl⟩; have h7 : t.size <= 7 := T.2.2 7 HV.out; have d1 : decide ((8 : Int) < (t.size : Int)) = false := (by simp; omega); have d2 : ((t.size : Int) == 8) = false := (by simp; omega))
 go_loop [4, 5] (fun n i => ∃ k : Nat, k <= t.size /\ i = .int .i64 k /\ n = .int .i64 (V (t.data.toList.take k))) (fun _ i => t.size - (intOf i).toNat)
 case atStart => exact ⟨0, Nat.zero_le _, rfl, rfl⟩
 case round =>
   obtain ⟨k, hk, rfl, rfl⟩ := hrel
   by_cases hlt : k < t.size
   · have hb := V_take_lt t.data.toList k (by omega)
     have hn := Lib.hid (V_take_succ t k hlt)
     have hc := UInt8.toNat_lt t[k]
     generalize hv : V (t.data.toList.take k) = v at *
     clear hv
     go_wp2
     go_round
     case rel => exact ⟨k + 1, by omega, by go_num, by rw [hn.out]; go_num⟩
     case measure => simp [intOf]; omega
   · have hkt : k = t.size := by omega
     have hvt : V (t.data.toList.take k) = V s.data.toList := by rw [hkt, List.take_of_length_le (by rw [Array.length_toList]; exact Nat.le_refl _)]; exact T.1
     have Hvt := Lib.hid hvt
     clear hvt hkt
     go_wp2
     go_ret2
     exact ⟨by unfold RetV; rw [← Hvt.out]; rfl, rfl⟩
theorem small_yes (s : ByteArray) (n : Nat) (w : World) (hs : s.size <= maxLen) (hn : n <= 7) (hV : V s.data.toList < 256 ^ n) : Calls Tryz.prog 102 #[.string s, .int .i64 n] w fun e w' => RetV (V s.data.toList) e /\ w = w' := by
 have H7 : Hid (V s.data.toList < 256 ^ 7) := Nat.lt_of_lt_of_le hV (Nat.pow_le_pow_right (by omega) hn)
 have HV := Lib.hid hV
 clear hV
 go_enter Tryz.func102, Tryz.ntmps102
 go_wp2_with (first
   | (go_at_call 159; refine (canon_any s _ hs).mono ?_; rintro e w' ⟨⟨t, T, rfl⟩, rfl⟩; have h7 : t.size <= n := T.2.2 n HV.out; have d1 : decide (n < t.size) = false := (by simp; omega))
   | (go_at_call 161; refine (int_small s _ hs H7.out).mono ?_; rintro e w' ⟨rfl, rfl⟩))
 go_ret2
 exact ⟨rfl, rfl⟩
end Go.EvPart.N
namespace Go.EvPart.N
open Go Go.Proofs Go.RowKit Go.EvNil
theorem info5 : (Tryz.prog.info? 5).map (fun i => (i.zero, i.size, i.bytes)) = some (some (.int .u8 0), 1, 1) := by kernel_rfl
theorem newsV (w : World) (v : Value) : ∀ (j : Nat) (u : Value), [v][j]? = some u -> (w.alloc (.cells #[v] 5)).cell? ((⟨w.heap.size, 0, none⟩ : Addr).add j) = some u := by
 intro j u hj
 cases j with
 | zero =>
   simp at hj
   subst hj
   exact cellOf (i := 0) (heapNew w _) rfl
 | succ j => simp at hj
theorem bl_succ (n j : Nat) : bl n (j + 1) = bl n j ++ [(((n / 2 ^ (56 - 8 * j)) % 256 : Nat) : Int)] := by
 simp [bl, List.range_succ]
theorem ownB_ge {base k : Nat} {v : Value} {w : World} {xs : List Value} {e : TypeId} (h : w.ownsRow base e 1 v k xs) : ∀ g, v.ownBlock = some g -> base <= g := by
 intro g hg
 obtain ⟨h3, h4⟩ := h
 rcases h4 with ⟨h4, h5⟩ | ⟨g', cap, cur, e1, e2, _⟩
 · subst h4; simp [Value.ownBlock] at hg
 · subst e1; simp [Value.ownBlock] at hg; omega
theorem ownsRow_last {w : World} {base k : Nat} {v : Value} {xs : List Value} {a b : Int} (h : w.ownsRow base 5 1 v k (xs ++ [.int .u8 a])) (e : a = b) : w.ownsRow base 5 1 v k (xs ++ [.int .u8 b]) := e ▸ h
def RetNat (n : Nat) (e : Ending) : Prop := ∃ t : ByteArray, e = .returned (.string t) /\ V t.data.toList = n /\ (t.size <= 8 /\ (n = 0 -> t.size = 0))
theorem of_zero (w : World) : Calls Tryz.prog 100 #[.int .i64 0] w fun e w' => RetNat 0 e /\ Below w.heap.size w w' := by
 have hcv := fun (w : World) (l c : Nat) => run_convert_bytes_nil (P := Tryz.prog) (w := w) 121 5 Tryz.underlying121 Tryz.underlying5 l c
 have hcv' := fun (w : World) (l c : Nat) => hcv w l c 99 Tryz.underlying99
 go_enter Tryz.func100, Tryz.ntmps100
 go_wp2
 refine wp_loop_rounds 1 ?_
 rw [rounds_succ]
 go_wp2_with (go_at_call 159; refine (canon_any _ _ (by simp [maxLen])).mono ?_; rintro e w' ⟨⟨t, T, rfl⟩, rfl⟩)
 go_ret
 exact ⟨⟨t, rfl, T.1.trans rfl, Nat.le_trans T.2.1 (by decide), fun _ => Nat.le_zero.1 (T.2.2 0 (by decide))⟩, Below.refl _ _⟩
theorem of_pos (n : Nat) (w : World) (h0 : 0 < n) (h1 : n < 36028797018963968) : Calls Tryz.prog 100 #[.int .i64 n] w fun e w' => RetNat n e /\ Below w.heap.size w w' := by
 obtain ⟨i0, hi0, hz0, hz1, hz2⟩ := info_parts info5
 have hp : decide ((0 : Int) < (n : Int)) = true := by simp; omega
 go_enter Tryz.func100, Tryz.ntmps100
 go_wp2
 go_loopw [3, 4] (fun v i wr => ∃ j : Nat, j <= 8 /\ i = .int .i64 (56 - 8 * (j : Int)) /\ wr.ownsRow w.heap.size 5 1 v j ((bl n j).map (Value.int .u8)) /\ Below w.heap.size w wr) (fun _ i _ => (intOf i + 8).toNat)
 case atStart => exact ⟨0, by omega, rfl, World.ownsRow_nil _ _ _ _, Below.refl _ _⟩
 case round =>
   obtain ⟨j, hj, rfl, hown, hbr⟩ := hrel
   by_cases hlt : j < 8
   · have hjj : j = 0 ∨ j = 1 ∨ j = 2 ∨ j = 3 ∨ j = 4 ∨ j = 5 ∨ j = 6 ∨ j = 7 := by omega
     have hq := bl_succ n j
     rcases hjj with rfl | rfl | rfl | rfl | rfl | rfl | rfl | rfl
     all_goals
       have Hq := Lib.hid hq
       clear hq
       go_wp2_with (at_builtin; refine wpList_append_own _ rfl _ _ 121 rfl w.heap.size 5 i0 (.int .u8 0) 1 1 Tryz.underlying121 hi0 hz0 hz1 hz2 rfl (by decide) _ _ _ rfl (hown.alloc _) ⟨wr.heap.size, 0, none⟩ 1 1 [_] rfl rfl (newsV _ _) (by simp [Value.oneCell']) (by unfold maxLen; omega) (by omega) (by have := hbr.size; simp; omega) ?_; intro v' w6 hown6 hgrow6 _)
       have HB6 : Below w.heap.size w w6 := (hbr.alloc hbr.size _).grown hgrow6 (by have := hbr.size; simp; omega) (ownB_ge hown)
       have HO6 := Lib.hid hown6
       clear hown6 hgrow6
       go_wp2
       first | (refine ⟨⟨1, by omega, by go_num, ?_, HB6⟩, by simp [intOf]⟩) | (refine ⟨⟨2, by omega, by go_num, ?_, HB6⟩, by simp [intOf]⟩) | (refine ⟨⟨3, by omega, by go_num, ?_, HB6⟩, by simp [intOf]⟩) | (refine ⟨⟨4, by omega, by go_num, ?_, HB6⟩, by simp [intOf]⟩) | (refine ⟨⟨5, by omega, by go_num, ?_, HB6⟩, by simp [intOf]⟩) | (refine ⟨⟨6, by omega, by go_num, ?_, HB6⟩, by simp [intOf]⟩) | (refine ⟨⟨7, by omega, by go_num, ?_, HB6⟩, by simp [intOf]⟩) | (refine ⟨⟨8, by omega, by go_num, ?_, HB6⟩, by simp [intOf]⟩)
       rw [Hq.out, List.map_append, List.map_singleton]
       exact ownsRow_last HO6.out (by first | omega | (simp; omega) | (simp))
   · obtain rfl : j = 8 := by omega
     obtain ⟨hl, hrow⟩ := hown
     rcases hrow with ⟨_, h8⟩ | ⟨g, cap, cur, rfl, hge, hcur, hle, hcap, hcs, htake⟩
     · omega
     · have hcell : ∀ i, i < 8 -> wr.cell? ⟨g, 0 + i, none⟩ = some (.int .u8 ((bl n 8).getD i 0)) := fun i hi => by
         have h1 : (cur.toList.take (8 * 1))[i]? = ((bl n 8).map (Value.int .u8))[i]? := by rw [htake]
         rw [List.getElem?_take, if_pos (by omega), List.getElem?_map] at h1
         have h2 : i < (bl n 8).length := by simpa [bl] using hi
         rw [List.getElem?_eq_getElem h2] at h1
         simp only [World.cell?, hcur, Nat.zero_add]
         simp only [Array.getElem?_toList] at h1
         rw [h1, List.getD_eq_getElem?_getD, List.getElem?_eq_getElem h2]
         rfl
       have hcv := run_convert_bytes_arg (P := Tryz.prog) wr 121 5 Tryz.underlying121 Tryz.underlying5 g 0 8 cap (bl n 8) (by simp [bl]) hcell 99 Tryz.underlying99
       have hv := Lib.hid (V_bl n h1)
       have hsz : (strOfNums (bl n 8)).size = 8 := by rw [strOfNums_size]; simp [bl]
       have Hsz := Lib.hid hsz
       clear hsz hcell hcur hcs htake hl
       go_wp2_with (go_at_call 159; refine (canon_any _ _ (by rw [Hsz.out]; unfold maxLen; omega)).mono ?_; rintro e w' ⟨⟨t, T, rfl⟩, rfl⟩)
       go_ret
       exact ⟨⟨t, rfl, T.1.trans (by rw [strOfNums_data]; exact hv.out), by have := T.2.1; rw [Hsz.out] at this; exact this, fun h => by omega⟩, hbr⟩
theorem of_any (n : Nat) (w : World) (h1 : n < 36028797018963968) : Calls Tryz.prog 100 #[.int .i64 n] w fun e w' => RetNat n e /\ Below w.heap.size w w' := by
 by_cases h0 : n = 0
 · subst h0; exact of_zero w
 · exact of_pos n w (by omega) h1
def IsN (s : ByteArray) (n : Nat) : Prop := V s.data.toList = n /\ (s.size <= 8 /\ (n = 0 -> s.size = 0))
theorem add_small (a b : ByteArray) (m n : Nat) (w : World) (ha : IsN a m) (hb : IsN b n) (hm : m < 281474976710656) (hn : n < 281474976710656) : Calls Tryz.prog 41 #[.string a, .string b] w fun e w' => RetNat (m + n) e /\ Below w.heap.size w w' := by
 have HA := Lib.hid ha
 have HB := Lib.hid hb
 clear ha hb
 have c1 : ∀ w, Calls Tryz.prog 102 #[.string a, .int .i64 7] w fun e w' => e = .returned (.tuple #[.int .i64 m, .bool true]) /\ w = w' := fun w => by
   have := small_yes a 7 w (Nat.le_trans HA.out.2.1 (by decide)) (by omega) (by rw [HA.out.1]; exact Nat.lt_of_lt_of_le hm (by decide))
   rw [HA.out.1] at this
   exact this
 have c2 : ∀ w, Calls Tryz.prog 102 #[.string b, .int .i64 7] w fun e w' => e = .returned (.tuple #[.int .i64 n, .bool true]) /\ w = w' := fun w => by
   have := small_yes b 7 w (Nat.le_trans HB.out.2.1 (by decide)) (by omega) (by rw [HB.out.1]; exact Nat.lt_of_lt_of_le hn (by decide))
   rw [HB.out.1] at this
   exact this
 have C1 := Lib.hid c1
 have C2 := Lib.hid c2
 have c3 : ∀ w, Calls Tryz.prog 100 #[.int .i64 ((m : Int) + (n : Int))] w fun e w' => RetNat (m + n) e /\ Below w.heap.size w w' := fun w => by
   have := of_any (m + n) w (by omega)
   rw [Int.natCast_add] at this
   exact this
 have C3 := Lib.hid c3
 clear c1 c2 c3
 go_enter Tryz.func41, Tryz.ntmps41
 go_wp2_with (first
   | (go_at_call 102; ((with_reducible refine (C1.out _).mono ?_); rintro e w' ⟨rfl, rfl⟩))
   | (go_at_call 102; ((with_reducible refine (C2.out _).mono ?_); rintro e w' ⟨rfl, rfl⟩))
   | (go_at_call 100; ((with_reducible refine (C3.out _).mono ?_); rintro e w' ⟨⟨t, rfl, hv, hz⟩, hb⟩)))
 go_ret
 exact ⟨⟨t, rfl, hv, hz⟩, hb⟩
theorem mul_small (a b : ByteArray) (m n : Nat) (w : World) (ha : IsN a m) (hb : IsN b n) (hm : m < 16777216) (hn : n < 2147483648) : Calls Tryz.prog 160 #[.string a, .string b] w fun e w' => RetNat (m * n) e /\ Below w.heap.size w w' := by
 have HA := Lib.hid ha
 have HB := Lib.hid hb
 clear ha hb
 have hmn : m * n < 36028797018963968 := by
   have h1 : m * n <= 16777215 * n := Nat.mul_le_mul_right _ (by omega)
   omega
 have c1 : ∀ w, Calls Tryz.prog 102 #[.string a, .int .i64 3] w fun e w' => e = .returned (.tuple #[.int .i64 m, .bool true]) /\ w = w' := fun w => by
   have := small_yes a 3 w (Nat.le_trans HA.out.2.1 (by decide)) (by omega) (by rw [HA.out.1]; exact Nat.lt_of_lt_of_le hm (by decide))
   rw [HA.out.1] at this
   exact this
 have c2 : ∀ w, Calls Tryz.prog 102 #[.string b, .int .i64 4] w fun e w' => e = .returned (.tuple #[.int .i64 n, .bool true]) /\ w = w' := fun w => by
   have := small_yes b 4 w (Nat.le_trans HB.out.2.1 (by decide)) (by omega) (by rw [HB.out.1]; exact Nat.lt_of_lt_of_le hn (by decide))
   rw [HB.out.1] at this
   exact this
 have c3 : ∀ w, Calls Tryz.prog 100 #[.int .i64 ((m : Int) * (n : Int))] w fun e w' => RetNat (m * n) e /\ Below w.heap.size w w' := fun w => by
   have := of_any (m * n) w hmn
   rw [Int.natCast_mul] at this
   exact this
 have C1 := Lib.hid c1
 have C2 := Lib.hid c2
 have C3 := Lib.hid c3
 have hw : wrap64 ((m : Int) * (n : Int)) = (m : Int) * (n : Int) := IntWalk.wrap64_in _ ⟨by rw [← Int.natCast_mul]; omega, by rw [← Int.natCast_mul]; omega⟩
 clear c1 c2 c3
 go_enter Tryz.func160, Tryz.ntmps160
 go_wp2_with (first
   | (go_at_call 102; ((with_reducible refine (C1.out _).mono ?_); rintro e w' ⟨rfl, rfl⟩))
   | (go_at_call 102; ((with_reducible refine (C2.out _).mono ?_); rintro e w' ⟨rfl, rfl⟩))
   | (go_at_call 100; ((with_reducible refine (C3.out _).mono ?_); rintro e w' ⟨⟨t, rfl, hv, hz⟩, hb⟩)))
 go_ret
 exact ⟨⟨t, rfl, hv, hz⟩, hb⟩
end Go.EvPart.N
