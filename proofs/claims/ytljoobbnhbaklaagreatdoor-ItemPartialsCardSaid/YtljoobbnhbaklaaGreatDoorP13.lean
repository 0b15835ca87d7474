/- ItemPartials, one part of the proof: PartG8, PartG9, PartH1. -/
import Derived.Test.YtljoobbnhbaklaaGreatDoorP11
import Derived.Test.YtljoobbnhbaklaaGreatDoorP12
import Derived.Lib.Join
import Derived.Test.YtljoobbnhbaklaaGreatDoorP00
import Derived.RangeFuncBox
import Derived.RangeFuncLeaves
import Derived.Shelf.Abstract
import Derived.OwnWalkIn
import Derived.TacticsInMore
import Derived.LoopNIn
import Derived.LoopIn
set_option linter.all false
set_option maxRecDepth 100000
set_option maxHeartbeats 16000000
namespace Go.EvPart
open Go Go.Proofs Go.RowKit Go.EvNil
theorem byteCells_length (l : List UInt8) : (Lib.byteCells l).length = l.length := by simp [Lib.byteCells]
def Bld (w : World) (B b m n : Nat) : Prop := B <= w.heap.size /\ ∃ l : List UInt8, Lib.IsBuilderF 123 5 B b (Lib.byteCells l) w /\ m <= l.length /\ l.length <= n
theorem Bld.weak {w : World} {B b m n m' n' : Nat} (h : Bld w B b m n) (hm : m' <= m) (hn : n <= n') : Bld w B b m' n' := by
 obtain ⟨h0, l, h1, h2, h3⟩ := h
 exact ⟨h0, l, h1, by omega, by omega⟩
theorem ownsRow_below'' {w w' : World} {base : Nat} {e : TypeId} {size : Nat} {v : Value} {n : Nat} {xs : List Value} (h : w.ownsRow base e size v n xs) (hb : Below w.heap.size w w') : w'.ownsRow base e size v n xs := by
 obtain ⟨h3, h4⟩ := h
 refine ⟨h3, ?_⟩
 rcases h4 with h4 | ⟨g, cap, cur, e1, e2, e3, e4⟩
 · exact .inl h4
 · exact .inr ⟨g, cap, cur, e1, e2, by rw [hb.block g (Array.getElem?_eq_some_iff.1 e3).1]; exact e3, e4⟩
theorem ownsRowF_below {w w' : World} {base : Nat} {e : TypeId} {size : Nat} {v : Value} {n : Nat} {xs : List Value} (h : w.ownsRowF base e size v n xs) (hb : Below w.heap.size w w') : w'.ownsRowF base e size v n xs := by
 obtain ⟨h3, h4⟩ := h
 refine ⟨h3, ?_⟩
 rcases h4 with h4 | ⟨g, cap, cur, fz, e1, e2, e3, e4⟩
 · exact .inl h4
 · exact .inr ⟨g, cap, cur, fz, e1, e2, by rw [hb.block g (Array.getElem?_eq_some_iff.1 e3).1]; exact e3, e4⟩
theorem builderAt_below {T e : TypeId} {B b : Nat} {p : Value} {bs : List Value} {w w' : World} (h : Lib.BuilderAtF T e B b p bs w) (hb : Below w.heap.size w w') : Lib.BuilderAtF T e B b p bs w' := by
 obtain ⟨h1, v, h2, h3, h4⟩ := h
 exact ⟨h1, v, by rw [hb.block b (heap_lt' h2)]; exact h2, ownsRowF_below h3 hb, h4⟩
theorem Bld.below {w w' : World} {B b m n : Nat} (h : Bld w B b m n) (hb : Below w.heap.size w w') : Bld w' B b m n := by
 obtain ⟨h0, l, h1, h2⟩ := h
 exact ⟨Nat.le_trans h0 hb.size, l, h1.elim (fun x => .inl (builderAt_below x hb)) (fun x => .inr (builderAt_below x hb)), h2⟩
theorem Bld.lt {w : World} {B b m n : Nat} (h : Bld w B b m n) : b < w.heap.size := by
 obtain ⟨_, l, h1, _⟩ := h
 rcases h1 with h1 | h1 <;> exact h1.lt
theorem Bld.base {w : World} {B b m n : Nat} (h : Bld w B b m n) : B <= b := by
 obtain ⟨_, l, h1, _⟩ := h
 rcases h1 with h1 | h1 <;> exact h1.1
theorem Bld.new (w : World) : Bld (w.alloc (.cells #[.pointer none, .slice none 0 0] 123)) w.heap.size w.heap.size 0 0 := by
 refine ⟨by simp, [], .inl ⟨Nat.le_refl _, .slice none 0 0, heapNew _ _, ⟨by simp [Lib.byteCells], .inl ⟨rfl, rfl⟩⟩, by simp [Value.ownBlock]⟩, Nat.le_refl _, Nat.le_refl _⟩
theorem others_of {w w' : World} {e : TypeId} {b : Option Nat} (hb : Below w.heap.size w w') : Lib.OthersKept e b w w' := fun k o hk _ _ => by rw [hb.block k (heap_lt' hk)]; exact hk
theorem BoxIs.kept {w w' : World} {b t e : Nat} {c : Option Nat} {v : Array Value} (h : w.heap[b]? = some (.cells v t (0, 0))) (hk : Lib.OthersKept e c w w') (h1 : some b ≠ c) (h2 : t ≠ e) : w'.heap[b]? = some (.cells v t (0, 0)) :=
 hk b _ h h1 fun c fz e => by cases e; exact h2 rfl
theorem writeString_any (B b m n : Nat) (s : ByteArray) (w : World) (h : Bld w B b m n) (hn : n + s.size <= 1000000) :
   Calls Tryz.prog 57 #[.pointer (some ⟨b, 0, none⟩), .string s] w fun e w' => e = .returned (.tuple #[.int .i64 s.size, .nilIface]) /\ Bld w' B b (m + s.size) (n + s.size) /\ Below B w w' /\ Lib.OthersKept 5 (some b) w w' := by
 obtain ⟨h0, l, h1, h2, h3⟩ := h
 have hz : s.data.toList.length = s.size := Array.length_toList
 refine (Any.Builder_WriteString_k (P := Tryz.prog) (ρ := Tryz.lays156_ren) { Tryz.lays156 with } Tryz.Builder_Extra_156 B b (Lib.byteCells l) s w h1 (by rw [byteCells_length]; omega) h0).mono ?_
 rintro e w' ⟨he, hB, hb, hk⟩
 refine ⟨he, ⟨Nat.le_trans h0 hb.size, l ++ s.data.toList, .inr ?_, by rw [List.length_append]; omega, by rw [List.length_append]; omega⟩, hb, hk⟩
 have : Lib.byteCells (l ++ s.data.toList) = Lib.byteCells l ++ Lib.strCells s := by rw [Lib.strCells_eq]; simp [Lib.byteCells]
 rw [this]
 exact hB
theorem writeByte_any (B b m n : Nat) (c : UInt8) (w : World) (h : Bld w B b m n) (hn : n <= 1000000) :
   Calls Tryz.prog 58 #[.pointer (some ⟨b, 0, none⟩), .int .u8 c.toNat] w fun e w' => e = .returned .nilIface /\ Bld w' B b (m + 1) (n + 1) /\ Below B w w' /\ Lib.OthersKept 5 (some b) w w' := by
 obtain ⟨h0, l, h1, h2, h3⟩ := h
 refine (Any.Builder_WriteByte_k (P := Tryz.prog) (ρ := Tryz.lays158_ren) { Tryz.lays158 with } Tryz.Builder_Extra_158 B b (Lib.byteCells l) c.toNat w h1 (by rw [byteCells_length]; omega) h0).mono ?_
 rintro e w' ⟨he, hB, hb, hk⟩
 refine ⟨he, ⟨Nat.le_trans h0 hb.size, l ++ [c], .inr ?_, by simp; omega, by simp; omega⟩, hb, hk⟩
 have : Lib.byteCells (l ++ [c]) = Lib.byteCells l ++ [.int .u8 c.toNat] := by simp [Lib.byteCells]
 rw [this]
 exact hB
def RetNe (m : Nat) (e : Ending) : Prop := ∃ s : ByteArray, e = .returned (.string s) /\ m <= s.size
theorem string_any (B b m n : Nat) (w : World) (h : Bld w B b m n) :
   Calls Tryz.prog 61 #[.pointer (some ⟨b, 0, none⟩)] w fun e w' => RetNe m e /\ Below B w w' := by
 obtain ⟨h0, l, h1, h2, h3⟩ := h
 refine (Any.Builder_String_any_k (P := Tryz.prog) (ρ := Tryz.lays169_ren) Tryz.lays169 Tryz.Builder_Extra_169 B b l w h1 h0).mono ?_
 rintro e w' ⟨rfl, _, hb, _⟩
 exact ⟨⟨_, rfl, by show m <= l.toArray.size; simpa using h2⟩, hb⟩
def Parts (w : World) (p o : Nat) (xs : List ByteArray) : Prop := p < w.heap.size /\ (∀ (j : Nat) x, xs[j]? = some x -> w.cell? ⟨p, o + j, none⟩ = some (.string x)) /\ xs.length <= 10 /\ ∀ x ∈ xs, x.size <= 200
theorem lens_le : ∀ xs : List ByteArray, (∀ x ∈ xs, x.size <= 200) -> Lib.lens (xs.map (·.data.toList)) <= 200 * xs.length
 | [], _ => by simp [Lib.lens]
 | x :: xs, h => by
   have h1 := lens_le xs fun y hy => h y (List.mem_cons_of_mem _ hy)
   have h2 := h x (List.mem_cons_self ..)
   have hz : x.data.toList.length = x.size := Array.length_toList
   simp only [List.map_cons, Lib.lens, List.length_cons, List.sum_cons]
   simp only [Lib.lens] at h1
   omega
theorem join_le (xs : List ByteArray) (sep : ByteArray) (h : ∀ x ∈ xs, x.size <= 200) (hn : xs.length <= 10) (hs : sep.size = 1) : (Lib.join (xs.map (·.data.toList)) sep.data.toList).length <= 2010 := by
 have hz : sep.data.toList.length = sep.size := Array.length_toList
 cases xs with
 | nil => simp [Lib.join]
 | cons x r =>
   have h1 := lens_le (x :: r) h
   rw [List.map_cons, Lib.join_length]
   simp only [List.map_cons, List.length_cons, List.length_map] at *
   rw [hz, hs]
   omega
def RetLe (n : Nat) (e : Ending) : Prop := ∃ s : ByteArray, e = .returned (.string s) /\ s.size <= n
theorem join_any (p o c : Nat) (xs : List ByteArray) (w : World) (hp : Parts w p o xs) (hc : xs.length <= c) :
   Calls Tryz.prog 36 #[.slice (some ⟨p, o, none⟩) xs.length c, .string ⟨#[32]⟩] w fun e w' => RetLe 2010 e /\ Below w.heap.size w w' := by
 obtain ⟨hp1, hp2, hp3, hp4⟩ := hp
 have hj := join_le xs ⟨#[32]⟩ hp4 hp3 rfl
 refine (Any.strings_Join Tryz.lays156 Tryz.Builder_Extra_156 p o c xs ⟨#[32]⟩ w hp2 hp1 (by omega) hc (by omega)).mono ?_
 rintro e w' ⟨rfl, hb⟩
 exact ⟨⟨_, rfl, by show (List.toArray _).size <= _; simpa using hj⟩, hb⟩
theorem line_any (B b m n p o c : Nat) (xs : List ByteArray) (w : World) (h : Bld w B b m n) (hn : n <= 900000) (hp : Parts w p o xs) (hc : xs.length <= c) :
   Calls Tryz.prog 56 #[.slice (some ⟨p, o, none⟩) xs.length c, .pointer (some ⟨b, 0, none⟩)] w fun e w' => e = .returned (.tuple #[]) /\ Bld w' B b (m + 1) (n + 2100) /\ Below B w w' /\ Lib.OthersKept 5 (some b) w w' := by
 have HJ := Lib.hid (join_any p o c xs w hp hc)
 have HB := Lib.hid h
 have hBs := h.1
 clear hp h
 go_enter Tryz.func56, Tryz.ntmps56
 go_wp2_with (first
   | (go_at_call 36; (with_reducible refine HJ.out.mono ?_); rintro e w1 ⟨⟨s, rfl, hs2⟩, hb1⟩)
   | (have _ := hb1; go_at_call 57; refine (writeString_any B b m n s _ (HB.out.below hb1) (by omega)).mono ?_; rintro e w2 ⟨rfl, hB2, hb2, hk2⟩)
   | (have _ := hb2; go_at_call 58; refine (writeByte_any B b (m + s.size) (n + s.size) 10 _ hB2 (by omega)).mono ?_; rintro e w3 ⟨rfl, hB3, hb3, hk3⟩))
 go_end0
 exact ⟨rfl, hB3.weak (by omega) (by omega), ((hb1.mono hBs).trans hb2).trans hb3, ((others_of hb1).trans hk2).trans hk3⟩
end Go.EvPart
namespace Go.EvPart
open Go Go.Proofs Go.RowKit Go.EvNil
theorem count_any (s : ByteArray) (w : World) (h : NoQuote s) : Calls Tryz.prog 185 #[.string s, .string ⟨#[39]⟩] w fun e w' => e = .returned (.int .i64 0) /\ w = w' := by
 refine (Any.strings_Count_one Tryz.lays138 s 39 w).mono ?_
 rintro e w' ⟨rfl, rfl⟩
 exact ⟨by show Ending.returned (.int .i64 ((s.data.toList.count 39 : Nat) : Int)) = _; unfold NoQuote at h; rw [h]; rfl, rfl⟩
theorem replace_any (s : ByteArray) (w : World) (h : NoQuote s) : Calls Tryz.prog 122 #[.string s, .string ⟨#[39]⟩, .string ⟨#[39, 39]⟩, .int .i64 (-1)] w fun e w' => e = .returned (.string s) /\ w = w' := by
 have H := Lib.hid (count_any s w h)
 clear h
 go_enter Tryz.func122, Tryz.ntmps122
 go_wp2_with (go_at_call 185; (with_reducible refine H.out.mono ?_); rintro e w' ⟨rfl, rfl⟩)
 go_ret
 exact ⟨rfl, rfl⟩
theorem replaceAll_any (s : ByteArray) (w : World) (h : NoQuote s) : Calls Tryz.prog 60 #[.string s, .string ⟨#[39]⟩, .string ⟨#[39, 39]⟩] w fun e w' => e = .returned (.string s) /\ w = w' := by
 have H := Lib.hid (replace_any s w h)
 clear h
 go_enter Tryz.func60, Tryz.ntmps60
 go_wp2_with (go_at_call 122; (with_reducible refine H.out.mono ?_); rintro e w' ⟨rfl, rfl⟩)
 go_ret
 exact ⟨rfl, rfl⟩
theorem dec_len (i : Nat) (h : i < 100) : (Lib.decDigits i).length <= 3 := by
 by_cases h1 : i < 10
 · rw [Lib.decDigits_one h1]; simp
 · rw [Lib.decDigits_two h1 h]; simp
theorem itoa_any (i : Nat) (w : World) (h : i < 100) : Calls Tryz.prog 34 #[.int .i64 i] w fun e w' => RetLe 3 e /\ w = w' := by
 refine (Any.strconv_Itoa_small Tryz.lays171 i h w).mono ?_
 rintro e w' ⟨rfl, rfl⟩
 exact ⟨⟨_, rfl, by show (List.toArray _).size <= _; simpa using dec_len i h⟩, rfl⟩
structure PrS (w : World) (G : Array Value) (b m n : Nat) (wr : World) : Prop where
 g : GB w G wr
 bl : Bld wr b b m n
 lt : w.heap.size < b
theorem PrS.below {w wr w' : World} {G : Array Value} {b m n : Nat} (h : PrS w G b m n wr) (hb : Below wr.heap.size wr w') : PrS w G b m n w' := ⟨h.g.below hb, h.bl.below hb, h.lt⟩
theorem PrS.weak {w wr : World} {G : Array Value} {b m n m' n' : Nat} (h : PrS w G b m n wr) (hm : m' <= m) (hn : n <= n') : PrS w G b m' n' wr := ⟨h.g, h.bl.weak hm hn, h.lt⟩
theorem PrS.wrote {w wr w' : World} {G : Array Value} {b m n m' n' : Nat} (h : PrS w G b m n wr) (hB : Bld w' b b m' n') (hb : Below b wr w') : PrS w G b m' n' w' := by
 have hl := h.lt
 refine ⟨⟨h.g.b.trans (hb.mono (by omega)), ?_⟩, hB, hl⟩
 have := h.g.g
 unfold BoxIs at *
 rw [hb.block _ hl]; exact this
theorem line2 (w : World) (G : Array Value) (b m n : Nat) (x0 x1 : ByteArray) (W : World) (h : PrS w G b m n W) (hn : n <= 900000) (h0 : x0.size <= 200) (h1 : x1.size <= 200) :
   Calls Tryz.prog 56 #[.slice (some ⟨W.heap.size, 0, none⟩) 2 2, .pointer (some ⟨b, 0, none⟩)] (W.alloc (.cells #[.string x0, .string x1] 9)) fun e w' => e = .returned (.tuple #[]) /\ PrS w G b (m + 1) (n + 2100) w' /\ Lib.OthersKept 5 (some b) W w' := by
 have hb := (Below.refl W.heap.size W).alloc (Nat.le_refl _) (.cells #[.string x0, .string x1] 9)
 have hP : Parts (W.alloc (.cells #[.string x0, .string x1] 9)) W.heap.size 0 [x0, x1] := by
   refine ⟨by simp, fun j x hj => ?_, by simp, fun x hx => ?_⟩
   · rw [Nat.zero_add]
     refine cellOf (heapNew _ _) ?_
     match j with
     | 0 => simp at hj; subst hj; rfl
     | 1 => simp at hj; subst hj; rfl
     | j + 2 => simp at hj
   · simp only [List.mem_cons, List.not_mem_nil, or_false] at hx
     rcases hx with rfl | rfl <;> assumption
 refine (line_any b b m n W.heap.size 0 2 [x0, x1] _ (h.bl.below hb) hn hP (Nat.le_refl _)).mono ?_
 rintro e w' ⟨he, hB, hb', hk⟩
 exact ⟨he, (h.below hb).wrote hB hb', (others_of hb).trans hk⟩
theorem line3 (w : World) (G : Array Value) (b m n : Nat) (x0 x1 x2 : ByteArray) (W : World) (h : PrS w G b m n W) (hn : n <= 900000) (h0 : x0.size <= 200) (h1 : x1.size <= 200) (h2 : x2.size <= 200) :
   Calls Tryz.prog 56 #[.slice (some ⟨W.heap.size, 0, none⟩) 3 3, .pointer (some ⟨b, 0, none⟩)] (W.alloc (.cells #[.string x0, .string x1, .string x2] 9)) fun e w' => e = .returned (.tuple #[]) /\ PrS w G b (m + 1) (n + 2100) w' /\ Lib.OthersKept 5 (some b) W w' := by
 have hb := (Below.refl W.heap.size W).alloc (Nat.le_refl _) (.cells #[.string x0, .string x1, .string x2] 9)
 have hP : Parts (W.alloc (.cells #[.string x0, .string x1, .string x2] 9)) W.heap.size 0 [x0, x1, x2] := by
   refine ⟨by simp, fun j x hj => ?_, by simp, fun x hx => ?_⟩
   · rw [Nat.zero_add]
     refine cellOf (heapNew _ _) ?_
     match j with
     | 0 => simp at hj; subst hj; rfl
     | 1 => simp at hj; subst hj; rfl
     | 2 => simp at hj; subst hj; rfl
     | j + 3 => simp at hj
   · simp only [List.mem_cons, List.not_mem_nil, or_false] at hx
     rcases hx with rfl | rfl | rfl <;> assumption
 refine (line_any b b m n W.heap.size 0 3 [x0, x1, x2] _ (h.bl.below hb) hn hP (Nat.le_refl _)).mono ?_
 rintro e w' ⟨he, hB, hb', hk⟩
 exact ⟨he, (h.below hb).wrote hB hb', (others_of hb).trans hk⟩
theorem line4 (w : World) (G : Array Value) (b m n : Nat) (x0 x1 x2 x3 : ByteArray) (W : World) (h : PrS w G b m n W) (hn : n <= 900000) (h0 : x0.size <= 200) (h1 : x1.size <= 200) (h2 : x2.size <= 200) (h3 : x3.size <= 200) :
   Calls Tryz.prog 56 #[.slice (some ⟨W.heap.size, 0, none⟩) 4 4, .pointer (some ⟨b, 0, none⟩)] (W.alloc (.cells #[.string x0, .string x1, .string x2, .string x3] 9)) fun e w' => e = .returned (.tuple #[]) /\ PrS w G b (m + 1) (n + 2100) w' /\ Lib.OthersKept 5 (some b) W w' := by
 have hb := (Below.refl W.heap.size W).alloc (Nat.le_refl _) (.cells #[.string x0, .string x1, .string x2, .string x3] 9)
 have hP : Parts (W.alloc (.cells #[.string x0, .string x1, .string x2, .string x3] 9)) W.heap.size 0 [x0, x1, x2, x3] := by
   refine ⟨by simp, fun j x hj => ?_, by simp, fun x hx => ?_⟩
   · rw [Nat.zero_add]
     refine cellOf (heapNew _ _) ?_
     match j with
     | 0 => simp at hj; subst hj; rfl
     | 1 => simp at hj; subst hj; rfl
     | 2 => simp at hj; subst hj; rfl
     | 3 => simp at hj; subst hj; rfl
     | j + 4 => simp at hj
   · simp only [List.mem_cons, List.not_mem_nil, or_false] at hx
     rcases hx with rfl | rfl | rfl | rfl <;> assumption
 refine (line_any b b m n W.heap.size 0 4 [x0, x1, x2, x3] _ (h.bl.below hb) hn hP (Nat.le_refl _)).mono ?_
 rintro e w' ⟨he, hB, hb', hk⟩
 exact ⟨he, (h.below hb).wrote hB hb', (others_of hb).trans hk⟩
theorem alloc_keep {w w' : World} {o : Obj} {row : Option Nat} {T t : TypeId} (hg : (w.alloc o).grownBy w' row) (hr : ∀ k, row = some k -> ∃ cs fr, w.heap[k]? = some (.cells cs T fr)) {k : Nat} {cs : Array Value} {fr : Nat × Nat} (hk : w.heap[k]? = some (.cells cs t fr)) (ht : t ≠ T) : w'.heap[k]? = some (.cells cs t fr) := by
 rw [hg.block k (by have := heap_lt' hk; simp; omega) (fun e => ?_), heapOld _ _ (heap_lt' hk)]
 · exact hk
 · obtain ⟨cs', fr', h'⟩ := hr k e.symm
   rw [hk] at h'
   cases h'
   exact ht rfl
theorem PrS.grown {w wr w' : World} {G : Array Value} {b m n : Nat} {o : Obj} {row : Option Nat} (h : PrS w G b m n wr) (hg : (wr.alloc o).grownBy w' row) (hr : ∀ k, row = some k -> ∃ cs fr, wr.heap[k]? = some (.cells cs 9 fr) /\ w.heap.size <= k) : PrS w G b m n w' := by
 have hr' : ∀ k, row = some k -> ∃ cs fr, wr.heap[k]? = some (.cells cs 9 fr) := fun k hk => by obtain ⟨cs, fr, h1, _⟩ := hr k hk; exact ⟨cs, fr, h1⟩
 have hB : Below w.heap.size w w' := (h.g.b.alloc h.g.b.size o).grown hg (by have := h.g.b.size; simp; omega) (fun k hk => by obtain ⟨_, _, _, h1⟩ := hr k hk; exact h1)
 refine ⟨⟨hB, alloc_keep hg hr' h.g.g (by decide)⟩, ?_, h.lt⟩
 obtain ⟨h0, l, h1, h2⟩ := h.bl
 have at' : ∀ p, Lib.BuilderAtF 123 5 b b p (Lib.byteCells l) wr -> Lib.BuilderAtF 123 5 b b p (Lib.byteCells l) w' := fun p ⟨a1, v, a2, ⟨a3, a4⟩, a5⟩ => by
   refine ⟨a1, v, alloc_keep hg hr' a2 (by decide), ⟨a3, ?_⟩, a5⟩
   rcases a4 with a4 | ⟨g, cap, cur, fz, e1, e2, e3, e4⟩
   · exact .inl a4
   · exact .inr ⟨g, cap, cur, fz, e1, e2, alloc_keep hg hr' e3 (by decide), e4⟩
 exact ⟨Nat.le_trans (Nat.le_trans h0 (by simp)) hg.size, l, h1.elim (fun x => .inl (at' _ x)) (fun x => .inr (at' _ x)), h2⟩
theorem infoS : (Tryz.prog.info? 9).map (fun i => (i.zero, i.size, i.bytes)) = some (some (.string ⟨#[]⟩), 1, 16) := by kernel_rfl
theorem own_cells {w : World} {base : Nat} {e : TypeId} {size n : Nat} {v : Value} {xs : List Value} (h : w.ownsRow base e size v n xs) (h0 : v ≠ .slice none 0 0) : ∃ g cap cur, v = .slice (some ⟨g, 0, none⟩) n cap /\ base <= g /\ w.heap[g]? = some (.cells cur e (0, 0)) /\ n <= cap /\ cur.size = cap * size /\ ∀ i, i < n * size -> cur[i]? = xs[i]? := by
 rcases h.2 with ⟨e1, _⟩ | ⟨g, cap, cur, e1, e2, e3, e4, e5, e6, e7⟩
 · exact absurd e1 h0
 · refine ⟨g, cap, cur, e1, e2, e3, e4, e6, fun i hi => ?_⟩
   rw [← e7, List.getElem?_take, if_pos hi]
   simp
structure SRow (w : World) (base : Nat) (v : Value) (n : Nat) (ys : List ByteArray) : Prop where
 len : ys.length = n
 sz : ∀ y ∈ ys, y.size <= 200
 own : w.ownsRow base 9 1 v n (ys.map Value.string)
theorem SRow.parts {w : World} {base : Nat} {v : Value} {n : Nat} {ys : List ByteArray} (h : SRow w base v n ys) (h0 : 0 < n) (h10 : n <= 10) : ∃ g cap, v = .slice (some ⟨g, 0, none⟩) n cap /\ base <= g /\ n <= cap /\ Parts w g 0 ys := by
 obtain ⟨g, cap, cur, e1, e2, e3, e4, e5, e6⟩ := own_cells h.own (fun e => by
   rcases h.own.2 with ⟨_, e2⟩ | ⟨g, cap, cur, e1, _⟩
   · omega
   · rw [e] at e1; cases e1)
 refine ⟨g, cap, e1, e2, e4, heap_lt' e3, fun j x hj => ?_, by rw [h.len]; exact h10, h.sz⟩
 have hlt : j < n := by rw [← h.len]; exact (List.getElem?_eq_some_iff.1 hj).1
 rw [Nat.zero_add]
 simp only [World.cell?, e3]
 rw [e6 j (by omega), List.getElem?_map, hj]
 rfl
theorem SRow.block {w : World} {base : Nat} {v : Value} {n : Nat} {ys : List ByteArray} (h : SRow w base v n ys) : ∀ k, v.ownBlock = some k -> ∃ cs fr, w.heap[k]? = some (.cells cs 9 fr) /\ base <= k := by
 intro k hk
 rcases h.own.2 with ⟨h4, _⟩ | ⟨g, cap, cur, e1, e2, e3, e4⟩
 · subst h4; simp [Value.ownBlock] at hk
 · subst e1
   simp [Value.ownBlock] at hk
   subst hk
   exact ⟨_, _, e3, e2⟩
theorem SRow.below {w w' : World} {base : Nat} {v : Value} {n : Nat} {ys : List ByteArray} (h : SRow w base v n ys) (hb : Below w.heap.size w w') : SRow w' base v n ys := ⟨h.len, h.sz, ownsRow_below'' h.own hb⟩
theorem SRow.new4 (w : World) (a b c d : ByteArray) (ha : a.size <= 200) (hb : b.size <= 200) (hc : c.size <= 200) (hd : d.size <= 200) : SRow (w.alloc (.cells #[.string a, .string b, .string c, .string d] 9)) w.heap.size (.slice (some ⟨w.heap.size, 0, none⟩) 4 4) (4 + 0) [a, b, c, d] :=
 ⟨rfl, fun y hy => by
   simp only [List.mem_cons, List.not_mem_nil, or_false] at hy
   rcases hy with rfl | rfl | rfl | rfl <;> assumption, rfl, .inr ⟨w.heap.size, 4, _, rfl, Nat.le_refl _, heapNew _ _, Nat.le_refl _, by decide, rfl, rfl⟩⟩
end Go.EvPart
namespace Go.EvPart
open Go Go.Proofs Go.RowKit Go.Shelf Go.EvNil
attribute [local go_sem] Oper.semAt_some
def upto {α : Type} (f : Nat -> α) (k : Nat) : List α := (List.range k).map f
theorem upto_succ {α : Type} (f : Nat -> α) (k : Nat) : upto f (k + 1) = upto f k ++ [f k] := by simp [upto, List.range_succ]
theorem upto_length {α : Type} (f : Nat -> α) (k : Nat) : (upto f k).length = k := by simp [upto]
def bwd (zs : List Nat) (k : Nat) : Nat × Nat := (zs.length - 1 - k, zs.getD (zs.length - 1 - k) 0)
def KB (p q : Nat) (X Y : World) : Prop := (∀ o, X.heap[p]? = some o -> Y.heap[p]? = some o) /\ (∀ o, X.heap[q]? = some o -> Y.heap[q]? = some o)
theorem KB.refl (p q : Nat) (X : World) : KB p q X X := ⟨fun _ h => h, fun _ h => h⟩
theorem KB.trans {p q : Nat} {X Y Z : World} (h : KB p q X Y) (k : KB p q Y Z) : KB p q X Z := ⟨fun o ho => k.1 o (h.1 o ho), fun o ho => k.2 o (h.2 o ho)⟩
theorem cell_same {X Y : World} {p o : Nat} {v : Value} (h : ∀ b, X.heap[p]? = some b -> Y.heap[p]? = some b) (hc : X.cell? ⟨p, o, none⟩ = some v) : Y.cell? ⟨p, o, none⟩ = some v := by
 have hlt := World.block_lt_of_cell? X _ hc
 have hx : X.heap[p]? = some X.heap[p] := Array.getElem?_eq_getElem hlt
 simp only [World.cell?, hx] at hc
 simp only [World.cell?, h _ hx]
 exact hc
theorem KB.put {p q : Nat} {W : World} {l : Nat} (o' : Obj) (h1 : p ≠ l) (h2 : q ≠ l) : KB p q W (W.putObj l o') :=
 ⟨fun o ho => by rw [(grownBy_putObj' W l o').block p (heap_lt' ho) (by simpa using h1)]; exact ho, fun o ho => by rw [(grownBy_putObj' W l o').block q (heap_lt' ho) (by simpa using h2)]; exact ho⟩
theorem backward1_in (F : Fence) (n : Nat) (h7 : F.fn 162) (hro : F.round = none) (hn : 1 <= n) (l Bs b b' off cap : Nat) (zs : List Nat) (h3 : zs.length <= 3) (hbb : 0 < zs.length -> b = b') (J Jx : List (Nat × Nat) -> World -> Prop)
   (hY : ∀ pre x W, J pre W -> pre.length < zs.length -> YieldAt F (n - 1) Tryz.prog l #[.int .i64 (x.1 : Int), .int .i64 (x.2 : Int)] W fun e W' =>
     (e = .returned (.bool true) /\ J (pre ++ [x]) W' /\ KB Bs b' W W') ∨ (e = .returned (.bool false) /\ Jx (pre ++ [x]) W'))
   (W : World) (hBs : W.cell? ⟨Bs, 0, none⟩ = some (.slice (some ⟨b, off, none⟩) zs.length cap)) (hc : ∀ j (hj : j < zs.length), W.cell? ⟨b, off + j, none⟩ = some (.int .i64 zs[j])) (h0 : J [] W) :
   CallsIn F n Tryz.prog 162 #[.func (.yield l) #[] #[], .pointer (some ⟨Bs, 0, none⟩)] W fun e W' => (∃ v, e = .returned v) /\
     ((∃ ys, ys = upto (bwd zs) zs.length /\ J ys W') ∨ (∃ pre, (∃ k, k <= zs.length /\ pre = upto (bwd zs) k) /\ Jx pre W')) := by
 refine callsIn_of_wp Tryz.func162 rfl h7 ?_ hro
 simp only [Tryz.ntmps162, List.size_toArray, List.length_cons, List.length_nil, Nat.reduceAdd, Nat.reduceSub, Array.replicate_succ, Array.replicate_zero, List.push_toArray, List.append_toArray, List.nil_append, List.cons_append]
 have j0 : (0 : Int) <= (zs.length : Int) := by omega
 have j1 : (zs.length : Int) <= 3 := by omega
 gi_wp2
 gi_loopw [3] (fun i wr => ∃ j : Nat, j <= zs.length /\ i = .int .i64 ((j : Int) - 1) /\ J (upto (bwd zs) (zs.length - j)) wr /\ KB Bs b' W wr)
   (fun i _ => ((intOf i) + 1).toNat)
 case atStart => exact ⟨zs.length, Nat.le_refl _, rfl, by rw [Nat.sub_self]; exact h0, KB.refl _ _ _⟩
 case round =>
   obtain ⟨j, hk, rfl, hJs, hnx⟩ := hrel
   have hBw := cell_same hnx.1 hBs
   cases j with
   | zero =>
     rw [show (((0 : Nat) : Int) - 1) = -1 from rfl]
     rw [Nat.sub_zero] at hJs
     gi_wp2
     go_end0
     exact ⟨⟨_, rfl⟩, .inl ⟨_, rfl, hJs⟩⟩
   | succ m =>
     have hcx : wr.cell? ⟨b, off + m, none⟩ = some (.int .i64 (zs[m] : Nat)) := by
       obtain rfl := hbb (by omega)
       exact cell_same hnx.2 (hc m (by omega))
     have hf : bwd zs (zs.length - (m + 1)) = (m, zs[m]) := by
       unfold bwd
       rw [show zs.length - 1 - (zs.length - (m + 1)) = m by omega]
       simp [List.getD_eq_getElem?_getD, show m < zs.length by omega]
     obtain ⟨fn, tmps, assign, body, hy, hR⟩ := hY _ (m, zs[m]) wr hJs (by rw [upto_length]; omega)
     dsimp only at hy
     have e1 : (((m + 1 : Nat) : Int) - 1) = (m : Int) := by omega
     rw [e1]
     have j2 : (0 : Int) <= (m : Int) := by omega
     have j3 : (m : Int) < (zs.length : Int) := by omega
     have j4 : (m : Int) <= 3 := by omega
     have HF := Lib.hid hf
     clear hf e1
     gi_wp2
     refine hR.mono ?_
     rintro e W3 (⟨rfl, hJ3, hk3⟩ | ⟨rfl, hJx3⟩)
     · gi_wp2
       go_roundw
       case rel => exact ⟨m, by omega, rfl, by rw [show zs.length - m = zs.length - (m + 1) + 1 by omega, upto_succ, HF.out]; exact hJ3, hnx.trans hk3⟩
       case measure => simp [intOf]; try omega
     · gi_wp2
       refine bodyPost_ret (results_none rfl _ _ _) rfl ?_
       exact ⟨⟨_, rfl⟩, .inr ⟨_, ⟨zs.length - (m + 1) + 1, by omega, by rw [upto_succ, HF.out]⟩, hJx3⟩⟩
theorem backward_stops (F : Fence) (n : Nat) (h7 : F.fn 162) (hro : F.round = none) (hn : 1 <= n) (Bs b b' off cap : Nat) (zs : List Nat) (h3 : zs.length <= 3) (hbb : 0 < zs.length -> b = b') (w : World)
   (hBs : w.cell? ⟨Bs, 0, none⟩ = some (.slice (some ⟨b, off, none⟩) zs.length cap)) (hc : ∀ j (hj : j < zs.length), w.cell? ⟨b, off + j, none⟩ = some (.int .i64 zs[j])) :
   SeqStopsK F n Tryz.prog 162 #[.pointer (some ⟨Bs, 0, none⟩)] (fun x : Nat × Nat => #[Value.int .i64 (x.1 : Int), Value.int .i64 (x.2 : Int)]) (KB Bs b') (fun ys => ys = upto (bwd zs) zs.length) (fun pre => ∃ k, k <= zs.length /\ pre = upto (bwd zs) k) zs.length w := fun l J Jx W hW _ _ hY h0 =>
 backward1_in F n h7 hro hn l Bs b b' off cap zs h3 hbb J Jx hY W (cell_same (fun o ho => by rw [hW.block _ (heap_lt' ho)]; exact ho) hBs) (fun j hj => cell_same (fun o ho => by rw [hW.block _ (heap_lt' ho)]; exact ho) (hc j hj)) h0
theorem backward_in (F : Fence) (n : Nat) (h5 : F.fn 107) (hro : F.round = none) (a : Option Addr) (len cap : Nat) (w : World) :
   CallsIn F n Tryz.prog 107 #[.slice a len cap] w fun e w' => e = .returned (.func (.func 162) #[] #[.pointer (some ⟨w.heap.size, 0, none⟩)]) /\ w' = w.alloc (.cells #[.slice a len cap] 22) := by
 refine callsIn_of_wp Tryz.func107 rfl h5 ?_ hro
 simp only [Tryz.ntmps107, List.size_toArray, List.length_cons, List.length_nil, Nat.reduceAdd, Nat.reduceSub, Array.replicate_succ, Array.replicate_zero, List.push_toArray, List.append_toArray, List.nil_append, List.cons_append]
 gi_wp2
 go_ret
 exact ⟨rfl, rfl⟩
theorem bwd_all (zs : List Nat) : (upto (bwd zs) zs.length).map (·.2) = zs.reverse := by
 apply List.ext_getElem
 · simp [upto]
 · intro i h1 h2
   have hi : i < zs.length := by simpa using h2
   simp only [upto, List.getElem_map, List.getElem_range, bwd, List.getElem_reverse]
   simp [List.getD_eq_getElem?_getD, show zs.length - 1 - i < zs.length by omega]
end Go.EvPart
