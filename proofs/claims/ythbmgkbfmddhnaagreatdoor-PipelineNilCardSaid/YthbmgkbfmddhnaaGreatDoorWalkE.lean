/-
  The contract of Counts for the grammars that Made makes.
-/
import Derived.Test.YthbmgkbfmddhnaaGreatDoorWalkB
import Derived.Test.YthbmgkbfmddhnaaGreatDoorPlain
import Derived.Deep.AppendLies
import Derived.Deep.DeepCutAuto
import Derived.Deep.RegionHeld3
set_option linter.all false
namespace Go.EvNil
open Go Go.Proofs Go.RowKit

theorem heap_lt' {w : World} {b : Nat} {o : Obj} (h : w.heap[b]? = some o) : b < w.heap.size := (Array.getElem?_eq_some_iff.1 h).1

/-- A sample: name, version, columns, symbols (name and kind), rules, start, and a table over the counts. -/
structure Sample where
  nm : ByteArray
  ver : Nat
  cols : List (ByteArray × Nat)
  syms : List (ByteArray × Nat)
  rules : List Rl
  st : Nat
  U : List (List Nat)

structure SOk (S : Sample) : Prop where
  nm : S.nm.size ≤ maxLen
  ver : S.ver ≤ 1000000000
  cols0 : 0 < S.cols.length
  cols : S.cols.length ≤ 8
  cz : ∀ c ∈ S.cols, c.1.size ≤ maxLen
  syms0 : 0 < S.syms.length
  syms : S.syms.length ≤ 12
  sz : ∀ c ∈ S.syms, c.1.size ≤ maxLen
  rules : S.rules.length ≤ 40
  st : S.st < S.syms.length
  need : Need (tabU S.U) S.rules
  rule : ∀ r ∈ S.rules, r.h < S.syms.length ∧ r.args.length ≤ 3 ∧ (∀ a ∈ r.args, a < S.syms.length) ∧ r.op.size ≤ maxLen ∧ r.pa.size ≤ maxLen

/-- Columns, as told. -/
def ColsAt (w : World) (ca : Option Addr) (cs : List (ByteArray × Nat)) : Prop := ∃ b o arr fz, ca = some ⟨b, o, none⟩ ∧ w.heap[b]? = some (.cells arr 88 fz) ∧ ∀ i (hi : i < cs.length), arr[o + i * 2]? = some (.string cs[i].1) ∧ arr[o + i * 2 + 1]? = some (.int .i64 cs[i].2)
def SymsAt (w : World) (sa : Option Addr) (ss : List (ByteArray × Nat)) (M : Nat → Nat) : Prop := ∃ b o, sa = some ⟨b, o, none⟩ ∧ b < w.heap.size ∧ ∀ i (hi : i < ss.length), w.cell? ⟨b, o + i * 3, none⟩ = some (.string ss[i].1) ∧ w.cell? ⟨b, o + i * 3 + 1, none⟩ = some (.int .i64 ss[i].2) ∧ w.cell? ⟨b, o + i * 3 + 2, none⟩ = some (.int .i64 (M i))
def ArgsAt (w : World) (aa : Option Addr) (l : List Nat) : Prop := 0 < l.length → ∃ b o, aa = some ⟨b, o, none⟩ ∧ b < w.heap.size ∧ ∀ i (hi : i < l.length), w.cell? ⟨b, o + i, none⟩ = some (.int .i64 l[i])
structure RlAt (w : World) (b o : Nat) (r : Rl) (aa : Option Addr) (ac : Nat) : Prop where
  c0 : w.cell? ⟨b, o, none⟩ = some (.int .i64 r.h)
  c1 : w.cell? ⟨b, o + 1, none⟩ = some (.string r.op)
  c2 : w.cell? ⟨b, o + 2, none⟩ = some (.string r.pa)
  c3 : w.cell? ⟨b, o + 3, none⟩ = some (.slice aa r.args.length ac)
  args : ArgsAt w aa r.args
  sm : ∃ ab ao, aa = some ⟨ab, ao, none⟩
def RulesAt (w : World) (ra : Option Addr) (rs : List Rl) : Prop := ∃ b o, ra = some ⟨b, o, none⟩ ∧ b < w.heap.size ∧ ∀ i (hi : i < rs.length), ∃ aa ac, RlAt w b (o + i * 4) rs[i] aa ac

theorem ColsAt.below {w w' : World} {ca : Option Addr} {cs : List (ByteArray × Nat)} (h : ColsAt w ca cs) (hb : Below w.heap.size w w') : ColsAt w' ca cs := by
  obtain ⟨b, o, arr, fz, e, hl, hc⟩ := h
  exact ⟨b, o, arr, fz, e, by rw [hb.block b (heap_lt' hl)]; exact hl, hc⟩
theorem SymsAt.below {w w' : World} {ca : Option Addr} {cs : List (ByteArray × Nat)} {M : Nat → Nat} (h : SymsAt w ca cs M) (hb : Below w.heap.size w w') : SymsAt w' ca cs M := by
  obtain ⟨b, o, e, hl, hc⟩ := h
  exact ⟨b, o, e, Nat.lt_of_lt_of_le hl hb.size, fun i hi => by rw [hb.cell hl, hb.cell hl, hb.cell hl]; exact hc i hi⟩
theorem ArgsAt.below {w w' : World} {aa : Option Addr} {l : List Nat} (h : ArgsAt w aa l) (hb : Below w.heap.size w w') : ArgsAt w' aa l := fun h0 => by
  obtain ⟨b, o, e, hl, hc⟩ := h h0
  exact ⟨b, o, e, Nat.lt_of_lt_of_le hl hb.size, fun i hi => by rw [hb.cell hl]; exact hc i hi⟩
theorem RlAt.below {w w' : World} {b o : Nat} {r : Rl} {aa : Option Addr} {ac : Nat} (h : RlAt w b o r aa ac) (hl : b < w.heap.size) (hb : Below w.heap.size w w') : RlAt w' b o r aa ac :=
  ⟨by rw [hb.cell hl]; exact h.c0, by rw [hb.cell hl]; exact h.c1, by rw [hb.cell hl]; exact h.c2, by rw [hb.cell hl]; exact h.c3, h.args.below hb, h.sm⟩
theorem RulesAt.below {w w' : World} {ra : Option Addr} {rs : List Rl} (h : RulesAt w ra rs) (hb : Below w.heap.size w w') : RulesAt w' ra rs := by
  obtain ⟨b, o, e, hl, hc⟩ := h
  exact ⟨b, o, e, Nat.lt_of_lt_of_le hl hb.size, fun i hi => by obtain ⟨aa, ac, h⟩ := hc i hi; exact ⟨aa, ac, h.below hl hb⟩⟩

theorem ColsAt.cols {w : World} {ca : Option Addr} {cs : List (ByteArray × Nat)} (h : ColsAt w ca cs) (h8 : cs.length ≤ 8) (hz : ∀ c ∈ cs, c.1.size ≤ maxLen) : Cols w ca cs.length :=
  ⟨by omega, fun _ => by
    obtain ⟨b, o, arr, fz, e, hl, hc⟩ := h
    exact ⟨b, o, e, heap_lt' hl, fun i hi => ⟨_, _, hz _ (List.getElem_mem hi), by simp only [World.cell?, hl]; exact (hc i hi).1, by simp only [World.cell?, hl]; exact (hc i hi).2⟩⟩⟩
theorem SymsAt.syms {w : World} {ca : Option Addr} {cs : List (ByteArray × Nat)} {M : Nat → Nat} (h : SymsAt w ca cs M) (h8 : cs.length ≤ 12) (hz : ∀ c ∈ cs, c.1.size ≤ maxLen) (hM : ∀ i, 1 ≤ M i ∧ M i ≤ 5) : Syms w ca cs.length :=
  ⟨by omega, fun _ => by
    obtain ⟨b, o, e, hl, hc⟩ := h
    exact ⟨b, o, e, hl, fun i hi => ⟨_, _, _, hz _ (List.getElem_mem hi), (hc i hi).1, (hc i hi).2.1, (hc i hi).2.2, by omega, by have := (hM i).2; omega⟩⟩⟩
theorem RulesAt.rules {S : Sample} (hS : SOk S) {w : World} {ra : Option Addr} {rs : List Rl} (h : RulesAt w ra rs) (hs : rs.Sublist S.rules) : Rules (fun _ _ => True) w ra rs.length S.syms.length :=
  ⟨by have := hs.length_le; have := hS.rules; omega, fun _ => by
    obtain ⟨b, o, e, hl, hc⟩ := h
    refine ⟨b, o, e, hl, fun i hi => ?_⟩
    obtain ⟨aa, ac, r⟩ := hc i hi
    obtain ⟨h1, h2, h3, h4, h5⟩ := hS.rule _ (hs.subset (List.getElem_mem hi))
    exact ⟨_, _, _, aa, _, ac, r.c0, r.c1, r.c2, r.c3, h1, trivial, h4, h5, h2, fun h0 => by
      obtain ⟨b, o, e, hl, hc⟩ := r.args h0
      exact ⟨b, o, e, hl, fun i hi => ⟨_, h3 _ (List.getElem_mem hi), hc i hi⟩⟩⟩⟩

/-- The counts in the making. -/
structure OutRow (w : World) (base : Nat) (v : Value) (k : Nat) (bs M : Nat → Nat) (U : Nat → Nat → Nat) : Prop where
  row : w.ownsRow base 118 1 v k ((List.range k).map fun s => .slice (some ⟨bs s, 0, none⟩) (M s + 1) (M s + 1))
  nat : ∀ s, s < k → base ≤ bs s ∧ Nats w (bs s) (M s + 1) (U s)
  inj : ∀ s t, s < k → t < k → s ≠ t → bs s ≠ bs t

theorem ownsRow_below' {w w' : World} {base : Nat} {e : TypeId} {size : Nat} {v : Value} {n : Nat} {xs : List Value} (h : w.ownsRow base e size v n xs) (hb : Below w.heap.size w w') : w'.ownsRow base e size v n xs := by
  obtain ⟨h3, h4⟩ := h
  refine ⟨h3, ?_⟩
  rcases h4 with h4 | ⟨g, cap, cur, e1, e2, e3, e4⟩
  · exact .inl h4
  · exact .inr ⟨g, cap, cur, e1, e2, by rw [hb.block g (Array.getElem?_eq_some_iff.1 e3).1]; exact e3, e4⟩
theorem ownsRow_ne {w : World} {base : Nat} {e t : TypeId} {size : Nat} {v : Value} {n : Nat} {xs : List Value} (h : w.ownsRow base e size v n xs) {b : Nat} {cs : Array Value} {fr : Nat × Nat} (hb : w.heap[b]? = some (.cells cs t fr)) (ht : t ≠ e) : some b ≠ v.ownBlock := by
  obtain ⟨h3, h4⟩ := h
  rcases h4 with ⟨h4, _⟩ | ⟨g, cap, cur, e1, e2, e3, e4⟩
  · subst h4; simp [Value.ownBlock]
  · subst e1
    simp only [Value.ownBlock, ne_eq, Option.some.injEq]
    intro e5
    subst e5
    rw [hb] at e3
    cases e3
    exact ht rfl

theorem OutRow.below {w w' : World} {base : Nat} {v : Value} {k : Nat} {bs M : Nat → Nat} {U : Nat → Nat → Nat} (h : OutRow w base v k bs M U) (hb : Below w.heap.size w w') : OutRow w' base v k bs M U :=
  ⟨ownsRow_below' h.row hb, fun s hs => ⟨(h.nat s hs).1, (h.nat s hs).2.below (h.nat s hs).2.1 hb⟩, h.inj⟩
theorem OutRow.mono {w : World} {base : Nat} {v : Value} {k : Nat} {bs M : Nat → Nat} {U U' : Nat → Nat → Nat} (h : OutRow w base v k bs M U) (hu : ∀ s i, s < k → i < M s + 1 → U s i ≤ U' s i) : OutRow w base v k bs M U' :=
  ⟨h.row, fun s hs => ⟨(h.nat s hs).1, (h.nat s hs).2.mono fun i hi => hu s i hs hi⟩, h.inj⟩
theorem OutRow.form {w : World} {base : Nat} {v : Value} {k : Nat} {bs M : Nat → Nat} {U : Nat → Nat → Nat} (h : OutRow w base v k bs M U) (h0 : 0 < k) : ∃ g cap, v = .slice (some ⟨g, 0, none⟩) k cap ∧ base ≤ g ∧ g < w.heap.size ∧ ∀ s, s < k → w.cell? ⟨g, s, none⟩ = some (.slice (some ⟨bs s, 0, none⟩) (M s + 1) (M s + 1)) := by
  obtain ⟨⟨h3, h4⟩, _, _⟩ := h
  rcases h4 with ⟨h4, h5⟩ | ⟨g, cap, cur, e1, e2, e3, e4, e5, e6, e7⟩
  · omega
  · refine ⟨g, cap, e1, e2, heap_lt' e3, fun s hs => ?_⟩
    have : (cur.toList.take (k * 1))[s]? = some (Value.slice (some ⟨bs s, 0, none⟩) (M s + 1) (M s + 1)) := by rw [e7]; simp [hs]
    rw [List.getElem?_take, if_pos (by omega)] at this
    simp only [World.cell?, e3]
    simpa using this
/-- A number is put in its place. -/
theorem OutRow.set {w : World} {base : Nat} {v : Value} {k : Nat} {bs M : Nat → Nat} {U U' : Nat → Nat → Nat} (h : OutRow w base v k bs M U) (hu : ∀ s i, s < k → i < M s + 1 → U s i ≤ U' s i) {s j m : Nat} {t : ByteArray} (hs : s < k) (hj : j < M s + 1) (ht : IsN t m) (hm : m ≤ U' s j) : OutRow (w.setCell ⟨bs s, j, none⟩ (.string t)) base v k bs M U' := by
  obtain ⟨_, cs, hcs, _⟩ := (h.nat s hs).2
  have hne := ownsRow_ne h.row hcs (by decide)
  refine ⟨⟨h.row.1, ?_⟩, fun q hq => ⟨(h.nat q hq).1, ?_⟩, h.inj⟩
  · rcases h.row.2 with h4 | ⟨g, cap, cur, e1, e2, e3, e4⟩
    · exact .inl h4
    · refine .inr ⟨g, cap, cur, e1, e2, ?_, e4⟩
      rw [Below.heap_setCell _ _ _ _ (fun e => hne (by subst e1; simp [Value.ownBlock, e]))]
      exact e3
  · by_cases e : q = s
    · subst e
      exact ((h.nat q hq).2.mono fun i hi => hu q i hq hi).set hj ht hm
    · have h1 := ((h.nat q hq).2.mono fun i hi => hu q i hq hi)
      obtain ⟨h0, cs', h2, h3⟩ := h1
      exact ⟨by simpa using h0, cs', by rw [Below.heap_setCell _ _ _ _ (h.inj q s hq hs e)]; exact h2, h3⟩

theorem Nats.zeros (w : World) (n : Nat) (U : Nat → Nat) : Nats (w.alloc (.cells (Array.replicate n (.string ⟨#[]⟩)) 117)) w.heap.size n U :=
  ⟨by simp, Array.replicate n (.string ⟨#[]⟩), heapNew w _, by simp, fun i hi => ⟨⟨#[]⟩, 0, by simp [hi], ⟨rfl, by decide⟩, Nat.zero_le _⟩⟩

/-- A symbol more. -/
theorem OutRow.next {w w6 : World} {base : Nat} {v v' : Value} {k : Nat} {bs M : Nat → Nat} {U : Nat → Nat → Nat} (h : OutRow w base v k bs M U) (hb : base ≤ w.heap.size) {o : Obj}
    (hown : w6.ownsRow base 118 1 v' (k + 1) (((List.range k).map fun s => Value.slice (some ⟨bs s, 0, none⟩) (M s + 1) (M s + 1)) ++ [.slice (some ⟨w.heap.size, 0, none⟩) (M k + 1) (M k + 1)]))
    (hg : ((w.alloc (.cells (Array.replicate (M k + 1) (.string ⟨#[]⟩)) 117)).alloc o).grownBy w6 v.ownBlock) : OutRow w6 base v' (k + 1) (fun s => if s = k then w.heap.size else bs s) M U := by
  have B1 : Below w.heap.size w ((w.alloc (.cells (Array.replicate (M k + 1) (.string ⟨#[]⟩)) 117)).alloc o) := ((Below.refl _ _).alloc (Nat.le_refl _) _).alloc (by simp) _
  have keep : ∀ (b : Nat) (cs : Array Value) (fr : Nat × Nat), ((w.alloc (.cells (Array.replicate (M k + 1) (.string ⟨#[]⟩)) 117)).alloc o).heap[b]? = some (Obj.cells cs 117 fr) → w6.heap[b]? = some (Obj.cells cs 117 fr) := fun b cs fr hbk => by
    have := ownsRow_ne (ownsRow_below' h.row B1) hbk (by decide)
    rw [hg.block b (heap_lt' hbk) this]
    exact hbk
  refine ⟨?_, fun s hs => ?_, fun s t hs ht hne => ?_⟩
  · rw [List.range_succ, List.map_append]
    have e1 : (List.range k).map (fun s => Value.slice (some ⟨if s = k then w.heap.size else bs s, 0, none⟩) (M s + 1) (M s + 1)) = (List.range k).map (fun s => Value.slice (some ⟨bs s, 0, none⟩) (M s + 1) (M s + 1)) := by
      apply List.map_congr_left
      intro s hs
      rw [if_neg (by have := List.mem_range.1 hs; omega)]
    rw [e1]
    simpa using hown
  · by_cases e : s = k
    · subst e
      rw [if_pos rfl]
      refine ⟨hb, ?_⟩
      obtain ⟨h0, cs, h1, h2⟩ := (Nats.zeros w (M s + 1) (U s)).below (B := w.heap.size + 1) (by omega) (w' := (w.alloc (.cells (Array.replicate (M s + 1) (.string ⟨#[]⟩)) 117)).alloc o) ((Below.refl _ _).alloc (by simp) _)
      exact ⟨Nat.lt_of_lt_of_le h0 hg.size, cs, keep _ _ _ h1, h2⟩
    · rw [if_neg e]
      obtain ⟨h3, h4⟩ := h.nat s (by omega)
      obtain ⟨h0, cs, h1, h2⟩ := h4.below h4.1 B1
      exact ⟨h3, Nat.lt_of_lt_of_le h0 hg.size, cs, keep _ _ _ h1, h2⟩
  · have lt : ∀ s, s < k → bs s < w.heap.size := fun s hs => (h.nat s hs).2.1
    by_cases e : s = k
    · rw [if_pos e, if_neg (by omega)]
      have := lt t (by omega)
      omega
    · rw [if_neg e]
      by_cases e' : t = k
      · rw [if_pos e']
        have := lt s (by omega)
        omega
      · rw [if_neg e']
        exact h.inj s t (by omega) (by omega) hne

theorem info118 : (Tryz.prog.info? 118).map (fun i => (i.zero, i.size, i.bytes)) = some (some (.slice none 0 0), 1, 24) := by kernel_rfl
theorem mk118 (m : Nat) (h1 : 1 ≤ m) (h5 : m ≤ 5) : ∀ (w : World), (Instr.makeSlice 118 (.int .i64 ((m : Int) + 1)) (.int .i64 ((m : Int) + 1))).run Tryz.prog w = .ok (.slice (some ⟨w.heap.size, 0, none⟩) (m + 1) (m + 1)) (w.alloc (.cells (Array.replicate (m + 1) (.string ⟨#[]⟩)) 117)) := by
  have : m = 1 ∨ m = 2 ∨ m = 3 ∨ m = 4 ∨ m = 5 := by omega
  rcases this with rfl | rfl | rfl | rfl | rfl
  all_goals (intro w; kernel_rfl)
end Go.EvNil

namespace Go.EvNil
open Go Go.Proofs Go.RowKit

/-- What Counts returns. -/
def RetCounts (S : Sample) (M : Nat → Nat) (w' : World) (base : Nat) (e : Ending) : Prop :=
  e = .returned (.slice none 0 0) ∨ ∃ v bs, e = .returned v ∧ OutRow w' base v S.syms.length bs M (tabU S.U)

theorem right_of (S : Sample) (hS : SOk S) (w : World) (M : Nat → Nat) (hM : ∀ i, 1 ≤ M i ∧ M i ≤ 5) (rs : List Rl) (hsub : rs.Sublist S.rules) (ca sa ra : Option Addr) (cc sc rc : Nat) (hC : ColsAt w ca S.cols) (hY : SymsAt w sa S.syms M) (hR : RulesAt w ra rs) :
    Calls Tryz.prog 50 #[.agg #[.string S.nm, .int .i64 S.ver, .slice ca S.cols.length cc, .slice sa S.syms.length sc, .slice ra rs.length rc, .int .i64 S.st]] w fun e w' => RetB e ∧ Below w.heap.size w w' := by
  have h1 := hS.ver
  have h2 := hS.cols
  have h3 := hS.syms
  have h4 := hS.syms0
  have h5 := hS.rules
  have h6 := hsub.length_le
  have h7 := hS.st
  exact right_any (fun _ _ => True) S.nm S.ver S.st ca sa ra _ cc _ sc _ rc w hS.nm (hC.cols hS.cols hS.cz) (hY.syms hS.syms hS.sz hM) (hR.rules hS hsub) (by first | (simp; done) | (simp; omega)) (by first | (simp; done) | (simp; omega)) (by first | (simp; done) | (simp; omega)) (by first | (simp; done) | (simp; omega)) (by first | (simp; done) | (simp; omega)) (by first | (simp; done) | (simp; omega)) (by first | (simp; done) | (simp; omega)) (by first | (simp; done) | (simp; omega))

set_option maxRecDepth 100000 in
set_option maxHeartbeats 16000000 in
theorem counts_any (S : Sample) (hS : SOk S) (w : World) (M : Nat → Nat) (hM : ∀ i, 1 ≤ M i ∧ M i ≤ 5) (rs : List Rl) (hsub : rs.Sublist S.rules) (ca sa ra : Option Addr) (cc sc rc : Nat) (hC : ColsAt w ca S.cols) (hY : SymsAt w sa S.syms M) (hR : RulesAt w ra rs) :
    Calls Tryz.prog 52 #[.agg #[.string S.nm, .int .i64 S.ver, .slice ca S.cols.length cc, .slice sa S.syms.length sc, .slice ra rs.length rc, .int .i64 S.st]] w fun e w' => RetCounts S M w' (w.heap.size + 1) e ∧ Below w.heap.size w w' := by
  have HB1 : ∀ o1, Below w.heap.size w (w.alloc o1) := fun o1 => (Below.refl _ _).alloc (Nat.le_refl _) _
  obtain ⟨i0, hi0, hz0, hz1, hz2⟩ := info_parts info118
  have HR1 := Lib.hid (fun W (hb : Below w.heap.size w W) => right_of S hS W M hM rs hsub ca sa ra cc sc rc (hC.below hb) (hY.below hb) (hR.below hb))
  have hof : ∀ W, Calls Tryz.prog 99 #[.int .i64 1] W fun e w' => RetNat 1 e ∧ Below W.heap.size W w' := fun W => of_any 1 W (by decide)
  have HOF := Lib.hid hof
  have hneed := Lib.hid (hS.need.sub hsub)
  have hrule := Lib.hid (fun r hr => hS.rule r (hsub.subset hr))
  have hsn0 := hS.syms0
  have hsn := hS.syms
  have hrn : rs.length ≤ 40 := Nat.le_trans hsub.length_le hS.rules
  clear hof
  go_enter Tryz.func52, Tryz.ntmps52
  go_wp2_with (go_at_call 50; refine (HR1.out _ (HB1 _)).mono ?_; rintro e w2 ⟨⟨r1, rfl⟩, hb2⟩)
  · go_ret
    exact ⟨.inl rfl, (HB1 _).trans (hb2.mono (by simp))⟩
  have h8 : r1 = true := by
    have h9' : (!r1) = false := by assumption
    simpa using h9'
  subst h8
  have HX : Box w2 w.heap.size #[.string S.nm, .int .i64 S.ver, .slice ca S.cols.length cc, .slice sa S.syms.length sc, .slice ra rs.length rc, .int .i64 S.st] :=
    Box.below (B := w.heap.size + 1) ⟨by simp, heapNew w _⟩ (by omega) (hb2.mono (by simp))
  have HB : Below w.heap.size w w2 := (HB1 _).trans (hb2.mono (by simp))
  have hs2 : w.heap.size + 1 ≤ w2.heap.size := HX.1
  clear hb2 HR1 HB1
  go_loopw [4, 5] (fun v i wr => ∃ k : Nat, k ≤ S.syms.length ∧ i = .int .i64 k ∧ (∃ bs, OutRow wr (w.heap.size + 1) v k bs M (fun _ _ => 0)) ∧ Below (w.heap.size + 1) w2 wr) (fun _ i _ => S.syms.length - (intOf i).toNat)
  case atStart => exact ⟨0, Nat.zero_le _, rfl, ⟨fun _ => 0, World.ownsRow_nil _ _ _ _, fun s hs => by omega, fun s t hs => by omega⟩, Below.refl _ _⟩
  case round =>
    obtain ⟨k, hk, rfl, ⟨bs, hrow⟩, hbr⟩ := hrel
    have HXr := HX.below (by omega) hbr
    have HBr : Below w.heap.size w wr := HB.trans (hbr.mono (by omega))
    have e3 := cellOf (i := 3) HXr.2 rfl
    have hlt1 := HXr.1
    by_cases hlt : k < S.syms.length
    · obtain ⟨sb, so, rfl, hsb, hcc⟩ := hY.below HBr
      obtain ⟨f0, f1, f2⟩ := hcc k hlt
      have hm1 := (hM k).1
      have hm5 := (hM k).2
      have j2 : (k : Int) < (S.syms.length : Int) := by omega
      have j3 : (k : Int) ≤ 1000 := by omega
      have j4 : (M k : Int) ≤ 1000 := by omega
      have hmk := mk118 (M k) hm1 hm5
      have hrw := hrow.row
      go_wp2_with (at_builtin; refine wpList_append_own _ rfl _ _ 115 rfl (w.heap.size + 1) 118 i0 (.slice none 0 0) 1 24 Tryz.underlying115 hi0 hz0 hz1 hz2 rfl (by decide) _ k _ rfl ((hrw.alloc _).alloc _) ⟨wr.heap.size + 1, 0, none⟩ 1 1 [.slice (some ⟨wr.heap.size, 0, none⟩) (M k + 1) (M k + 1)] rfl rfl (World.news_of_block (cs := #[.slice (some ⟨wr.heap.size, 0, none⟩) (M k + 1) (M k + 1)]) (t := 118) (fr := (0, 0)) (by rw [← sizeNew wr (.cells (Array.replicate (M k + 1) (.string ⟨#[]⟩)) 117)]; exact heap_alloc_new _ _)) (by simp [Value.oneCell']) (by unfold maxLen; omega) (by omega) (by simp; omega) ?_; intro v' w6 hown6 hgrow6 _)
      have HO6 := hrow.next (by omega) hown6 hgrow6
      have HB6 : Below (w.heap.size + 1) w2 w6 := (((hbr.alloc (by omega) _).alloc (by simp; omega) _).grown hgrow6 (by simp; omega) (ownB_ge hrw))
      clear hown6 hgrow6 hrw hrow hmk
      go_roundw
      case rel => first | exact ⟨k + 1, by omega, by go_num, ⟨_, HO6⟩, HB6⟩ | ((repeat apply Exists.intro); refine ⟨?_, rfl⟩; exact ⟨k + 1, by omega, by go_num, ⟨_, HO6⟩, HB6⟩)
      case measure => simp [intOf]; omega
    · obtain rfl : k = S.syms.length := by omega
      obtain ⟨og, cap, rfl, hog, hogl, hoc⟩ := hrow.form hsn0
      have hrow1 : OutRow wr (w.heap.size + 1) (.slice (some ⟨og, 0, none⟩) S.syms.length cap) S.syms.length bs M (cntB (tabU S.U) rs 1 0) := hrow.mono fun _ _ _ _ => Nat.zero_le _
      clear hrow hoc hogl
      obtain ⟨w3, rfl⟩ : ∃ w3 : World, w3 = wr := ⟨_, rfl⟩
      go_wp2
      go_loopw [6] (fun i wz => ∃ z : Nat, 1 ≤ z ∧ z ≤ 10 ∧ i = .int .i64 z ∧ OutRow wz (w.heap.size + 1) (.slice (some ⟨og, 0, none⟩) S.syms.length cap) S.syms.length bs M (cntB (tabU S.U) rs z 0) ∧ Below (w.heap.size + 1) w2 wz) (fun i _ => 10 - (intOf i).toNat)
      case atStart => exact ⟨1, by omega, by omega, rfl, hrow1, hbr⟩
      case round =>
        clear HXr HBr e3 hlt1 hrow1 hbr
        obtain ⟨w4, rfl⟩ : ∃ w4 : World, w4 = wr := ⟨_, rfl⟩
        obtain ⟨z, hz1', hz2', rfl, hrow, hbr⟩ := hrel
        by_cases hz9 : z ≤ 9
        · have jz : (z : Int) ≤ 9 := by omega
          go_wp2
          go_loopw [7] (fun i wk => ∃ k : Nat, k ≤ rs.length ∧ i = .int .i64 k ∧ OutRow wk (w.heap.size + 1) (.slice (some ⟨og, 0, none⟩) S.syms.length cap) S.syms.length bs M (cntB (tabU S.U) rs z k) ∧ Below (w.heap.size + 1) w2 wk) (fun i _ => rs.length - (intOf i).toNat)
          case atStart => exact ⟨0, by omega, rfl, hrow, hbr⟩
          case round =>
            clear hrow hbr
            obtain ⟨wk, rfl⟩ : ∃ wk : World, wk = wr := ⟨_, rfl⟩
            obtain ⟨k, hk', rfl, hrow, hbr⟩ := hrel
            have HXr := HX.below (by omega) hbr
            have HBr : Below w.heap.size w wk := HB.trans (hbr.mono (by omega))
            have e4 := cellOf (i := 4) HXr.2 rfl
            have e3 := cellOf (i := 3) HXr.2 rfl
            have hlt1 := HXr.1
            by_cases hltk : k < rs.length
            · obtain ⟨rb, ro, rfl, hrb, hcc⟩ := hR.below HBr
              obtain ⟨aa, ac, hrl⟩ := hcc k hltk
              obtain ⟨hh, hal, harg, _, _⟩ := hrule.out _ (List.getElem_mem hltk)
              have f0 := hrl.c0
              have f1 := hrl.c1
              have f2 := hrl.c2
              have f3 := hrl.c3
              obtain ⟨sb, so, rfl, hsb, hsc⟩ := hY.below HBr
              obtain ⟨_, _, g2⟩ := hsc _ hh
              have HAR := Lib.hid hrl.args
              have HRO := Lib.hid hrow
              have hm5 := (hM rs[k].h).2
              have j2 : (k : Int) < (rs.length : Int) := by omega
              have j3 : (k : Int) ≤ 1000 := by omega
              have j5 : (rs[k].h : Int) < (S.syms.length : Int) := by omega
              clear hrl hcc hsc hrow
              by_cases hzm : M rs[k].h < z
              · have jm : (M rs[k].h : Int) < (z : Int) := by omega
                go_wp2
                exact ⟨⟨k + 1, by omega, by go_num, (HRO.out.below ((Below.refl _ _).alloc (Nat.le_refl _) _)).mono fun s i _ _ => by rw [cntB_step z k s i hltk]; exact Nat.le_add_right _ _, hbr.alloc (by omega) _⟩, by simp [intOf]; omega⟩
              · have jm : ¬ (M rs[k].h : Int) < (z : Int) := by omega
                have hmk : ∀ w, (Instr.makeSlice 118 (.int .i64 10) (.int .i64 10)).run Tryz.prog w = .ok (.slice (some ⟨w.heap.size, 0, none⟩) 10 10) (w.alloc (.cells (Array.replicate 10 (.string ⟨#[]⟩)) 117)) := fun w => by kernel_rfl
                go_wp2_with (go_at_call 99; refine (HOF.out _).mono ?_; rintro e w5 ⟨⟨t1, rfl, hv1, hn1⟩, hb5⟩; have hN5 : Nats w5 (wk.heap.size + 1) 10 one1 := (by have h0 := Nats.zeros (wk.alloc (.cells #[.int .i64 rs[k].h, .string rs[k].op, .string rs[k].pa, .slice aa rs[k].args.length ac] 112)) 10 one1; rw [sizeNew] at h0; exact h0.below (by simp) hb5); obtain ⟨s0, m0, c0, _, _⟩ := hN5.cell (i := 1) (by decide); have z0 := hN5.free 1)
                have hN6 : Nats (w5.setCell ⟨wk.heap.size + 1, 1, none⟩ (.string t1)) (wk.heap.size + 1) 10 one1 := hN5.set (by decide) ⟨hv1, hn1⟩ (by decide)
                have BR : Below (wk.heap.size + 1) (wk.alloc (.cells #[.int .i64 rs[k].h, .string rs[k].op, .string rs[k].pa, .slice aa rs[k].args.length ac] 112)) (w5.setCell ⟨wk.heap.size + 1, 1, none⟩ (.string t1)) := (((Below.refl _ _).alloc (by simp) _).trans (hb5.mono (by simp))).setCell (by simp) _
                have hbox : (w5.setCell ⟨wk.heap.size + 1, 1, none⟩ (.string t1)).heap[wk.heap.size]? = some (.cells #[.int .i64 rs[k].h, .string rs[k].op, .string rs[k].pa, .slice aa rs[k].args.length ac] 112 (0, 0)) := by rw [BR.block _ (by omega)]; exact heapNew _ _
                have BK : Below wk.heap.size wk (w5.setCell ⟨wk.heap.size + 1, 1, none⟩ (.string t1)) := ((Below.refl _ _).alloc (Nat.le_refl _) _).trans (BR.mono (by omega))
                clear hN5 hb5 BR c0 z0 hv1 hn1 hmk e3 e4 f0 f1 f2 f3 g2
                generalize (w5.setCell ⟨wk.heap.size + 1, 1, none⟩ (.string t1)) = w6 at hN6 hbox BK ⊢
                have hl6 := heap_lt' hbox
                go_loopw [9, 10] (fun v i wq => ∃ j wb : Nat, wk.heap.size < wb ∧ j ≤ rs[k].args.length ∧ i = .int .i64 j ∧ v = .slice (some ⟨wb, 0, none⟩) 10 10 ∧ Nats wq wb 10 (convL (tabU S.U) (rs[k].args.take j) one1) ∧ Below w6.heap.size w6 wq) (fun _ i _ => rs[k].args.length - (intOf i).toNat)
                case atStart => exact ⟨0, wk.heap.size + 1, by omega, by omega, rfl, rfl, hN6, Below.refl _ _⟩
                case round =>
                  clear hN6
                  obtain ⟨j, wb, hwb, hj, rfl, rfl, hN, hbq⟩ := hrel
                  have hbxq : wr.heap[wk.heap.size]? = some (.cells #[.int .i64 rs[k].h, .string rs[k].op, .string rs[k].pa, .slice aa rs[k].args.length ac] 112 (0, 0)) := by rw [hbq.block _ hl6]; exact hbox
                  have r3 := cellOf (i := 3) hbxq rfl
                  have BKq : Below wk.heap.size wk wr := BK.trans (hbq.mono BK.size)
                  have hOq := HRO.out.below BKq
                  obtain ⟨og', cap', hfe, _, hogl, hoc⟩ := hOq.form hsn0
                  obtain ⟨rfl, rfl⟩ : og = og' ∧ cap = cap' := by cases hfe; exact ⟨rfl, rfl⟩
                  clear hfe
                  by_cases hlj : j < rs[k].args.length
                  · obtain ⟨ab, ao, rfl, hab, hax⟩ := (HAR.out.below BKq) (by omega)
                    have hcx := hax j hlj
                    have hasn := harg _ (List.getElem_mem hlj)
                    have hca := hoc _ hasn
                    have hNa := (hOq.nat _ hasn).2
                    have hma := (hM rs[k].args[j]).2
                    have j6 : (0 : Int) ≤ (j : Int) := by omega
                    have j7 : (j : Int) < (rs[k].args.length : Int) := by omega
                    have j8 : (j : Int) ≤ 1000 := by omega
                    have j9 : (rs[k].args[j] : Int) < (S.syms.length : Int) := by omega
                    have hnum := numP_at (tabU S.U) (rs[k].args.take j) rs[k].args[j] (rs[k].args.drop (j + 1)) one1 (by rw [← List.drop_eq_getElem_cons hlj, List.take_append_drop]; exact hneed.out.num _ (List.getElem_mem hltk))
                    have hle : ∀ i, i < M rs[k].args[j] + 1 → cntB (tabU S.U) rs z k rs[k].args[j] i ≤ tabU S.U rs[k].args[j] i := fun i hi => cntB_le hneed.out z k _ i (by omega)
                    have HJ := Lib.hid (joined_any wb (bs rs[k].args[j]) (M rs[k].args[j] + 1) 10 (M rs[k].args[j] + 1) (convL (tabU S.U) (rs[k].args.take j) one1) (cntB (tabU S.U) rs z k rs[k].args[j]) wr (by omega) hN hNa hnum.1 (fun i hi => Nat.lt_of_le_of_lt (hle i hi) (hneed.out.lt _ _)) (fun i hi => Nat.lt_of_le_of_lt (sumC_mono (fun _ _ => Nat.le_refl _) hle (by omega) 10 (Nat.le_refl _)) (hnum.2 i hi)))
                    have hcv : ∀ i, i < 10 → sumC (convL (tabU S.U) (rs[k].args.take j) one1) (cntB (tabU S.U) rs z k rs[k].args[j]) (M rs[k].args[j] + 1) i 10 ≤ convL (tabU S.U) (rs[k].args.take (j + 1)) one1 i := fun i _ => by
                      rw [List.take_succ_eq_append_getElem hlj, convL_snoc]
                      exact sumC_mono (fun _ _ => Nat.le_refl _) hle (by omega) 10 (Nat.le_refl _)
                    have HCV := Lib.hid hcv
                    clear hN hNa hnum hle hcv hoc hOq hax
                    go_wp2_with (go_at_call 100; refine HJ.out.mono ?_; rintro e w7 ⟨rfl, hN7, hb7⟩)
                    exact ⟨⟨j + 1, wr.heap.size, by have := BKq.size; have := hbq.size; omega, by omega, by go_num, rfl, hN7.mono HCV.out, hbq.trans (hb7.mono hbq.size)⟩, by simp [intOf]; omega⟩
                  · obtain rfl : j = rs[k].args.length := by omega
                    have hco := hoc _ hh
                    obtain ⟨hbsg, hNh⟩ := hOq.nat _ hh
                    obtain ⟨sx, vo, co, no, lo⟩ := hNh.cell (i := z) (by omega)
                    obtain ⟨sw, vw, cw, nw, lw⟩ := hN.cell (i := z) (by omega)
                    have fo := hNh.free z
                    have r0 := cellOf (i := 0) hbxq rfl
                    rw [List.take_length] at lw
                    have b1 : vo < 281474976710656 := by
                      have h1 := cntB_le hneed.out z k rs[k].h z (by omega)
                      have h2 := hneed.out.lt rs[k].h z
                      omega
                    have b2 : vw < 281474976710656 := Nat.lt_of_le_of_lt lw (numP_end (tabU S.U) _ one1 (hneed.out.num _ (List.getElem_mem hltk)) z (by omega))
                    have l1 : bs rs[k].h < wr.heap.size := hNh.1
                    have l2 := heap_lt' hbxq
                    have j10 : (0 : Int) ≤ (z : Int) := by omega
                    have j11 : (z : Int) < (M rs[k].h : Int) + 1 := by omega
                    have j12 : (z : Int) < 10 := by omega
                    have j13 : (0 : Int) ≤ (rs[k].h : Int) := by omega
                    have l3 : wb < wr.heap.size := hN.1
                    have l4 : bs rs[k].h < wk.heap.size := (HRO.out.nat _ hh).2.1
                    have nw3 : og ≠ bs rs[k].h := fun e => by
                      obtain ⟨_, csx, hcsx, _⟩ := hNh
                      exact ownsRow_ne hOq.row hcsx (by decide) (by simp [Value.ownBlock, e])
                    have HOQ := Lib.hid hOq
                    clear hN hNh hOq hoc
                    go_wp2
                    have nw1 : wk.heap.size ≠ bs rs[k].h := by omega
                    have nw2 : wb ≠ bs rs[k].h := by omega
                    refine wp_region_held_drew (S := (fun W => W.cell? ⟨wk.heap.size, 0, none⟩ = some (.int .i64 rs[k].h) ∧ W.cell? ⟨og, rs[k].h, none⟩ = some (.slice (some ⟨bs rs[k].h, 0, none⟩) (M rs[k].h + 1) (M rs[k].h + 1)) ∧ W.cell? ⟨wb, z, none⟩ = some (.string sw))) (by kernel_rfl) ?_ (fun hHeld => ?_)
                    · exact ⟨r0, hco, cw⟩
                    refine wpAnyH_take (i := 0) (oi := _) (v := ?_) rfl (by kernel_rfl) (by kernel_rfl) (by kernel_rfl) (fun _ _ _ h => h) (Or.inl ⟨by rfl, ?_⟩) (by assumption) ?_
                    rotate_left
                    · intro w hSw; (try dsimp only at hSw); (go_simp <;> with_reducible rfl)
                    try simp only [Act.put, List.setIfInBounds_toArray, List.set_cons_zero, List.set_cons_succ]
                    refine wpAnyH_take (i := 1) (oi := _) (v := ?_) rfl (by kernel_rfl) (by kernel_rfl) (by kernel_rfl) (fun _ _ _ h => h) (Or.inl ⟨by rfl, ?_⟩) (by assumption) ?_
                    rotate_left
                    · intro w hSw; (try dsimp only at hSw); (go_simp <;> with_reducible rfl)
                    try simp only [Act.put, List.setIfInBounds_toArray, List.set_cons_zero, List.set_cons_succ]
                    refine wpAnyH_take (i := 2) (oi := _) (v := ?_) rfl (by kernel_rfl) (by kernel_rfl) (by kernel_rfl) (fun _ _ _ h => h) (Or.inl ⟨by rfl, ?_⟩) (by assumption) ?_
                    rotate_left
                    · intro w hSw; (try dsimp only at hSw); (go_simp <;> with_reducible rfl)
                    try simp only [Act.put, List.setIfInBounds_toArray, List.set_cons_zero, List.set_cons_succ]
                    refine wpAnyH_take (i := 3) (oi := _) (v := ?_) rfl (by kernel_rfl) (by kernel_rfl) (by kernel_rfl) (fun _ _ _ h => h) (Or.inl ⟨by rfl, ?_⟩) (by assumption) ?_
                    rotate_left
                    · intro w hSw; (try dsimp only at hSw); (go_simp <;> with_reducible rfl)
                    try simp only [Act.put, List.setIfInBounds_toArray, List.set_cons_zero, List.set_cons_succ]
                    refine wpAnyH_take (i := 4) (oi := _) (v := ?_) rfl (by kernel_rfl) (by kernel_rfl) (by kernel_rfl) (fun _ _ _ h => h) (Or.inl ⟨by rfl, ?_⟩) (by assumption) ?_
                    rotate_left
                    · intro w hSw; (try dsimp only at hSw); (go_simp <;> with_reducible rfl)
                    try simp only [Act.put, List.setIfInBounds_toArray, List.set_cons_zero, List.set_cons_succ]
                    refine wpAnyH_take (i := 5) (oi := _) (v := ?_) rfl (by kernel_rfl) (by kernel_rfl) (by kernel_rfl) (fun _ _ _ h => h) (Or.inl ⟨by rfl, ?_⟩) (by assumption) ?_
                    rotate_left
                    · intro w hSw; (try dsimp only at hSw); (go_simp <;> with_reducible rfl)
                    try simp only [Act.put, List.setIfInBounds_toArray, List.set_cons_zero, List.set_cons_succ]
                    refine wpAnyH_take (i := 6) (oi := _) (v := ?_) rfl (by kernel_rfl) (by kernel_rfl) (by kernel_rfl) (fun _ _ _ h => h) (Or.inl ⟨by rfl, ?_⟩) (by assumption) ?_
                    rotate_left
                    · intro w hSw; (try dsimp only at hSw); (go_simp <;> with_reducible rfl)
                    try simp only [Act.put, List.setIfInBounds_toArray, List.set_cons_zero, List.set_cons_succ]
                    refine wpAnyH_take (i := 7) (oi := _) (v := ?_) rfl (by kernel_rfl) (by kernel_rfl) (by kernel_rfl) (fun _ _ _ h => h) (Or.inl ⟨by rfl, ?_⟩) (by assumption) ?_
                    rotate_left
                    · intro w hSw; (try dsimp only at hSw); (go_simp <;> with_reducible rfl)
                    try simp only [Act.put, List.setIfInBounds_toArray, List.set_cons_zero, List.set_cons_succ]
                    refine wpAnyH_take (i := 8) (oi := _) (v := ?_) rfl (by kernel_rfl) (by kernel_rfl) (by kernel_rfl) (fun _ _ _ h => h) (Or.inl ⟨by rfl, ?_⟩) (by assumption) ?_
                    rotate_left
                    · intro w hSw; (try dsimp only at hSw); (go_simp <;> with_reducible rfl)
                    try simp only [Act.put, List.setIfInBounds_toArray, List.set_cons_zero, List.set_cons_succ]
                    refine wpAnyH_take (i := 9) (oi := _) (v := ?_) rfl (by kernel_rfl) (by kernel_rfl) (by kernel_rfl) (fun _ _ _ h => h) (Or.inl ⟨by rfl, ?_⟩) (by assumption) ?_
                    rotate_left
                    · intro w hSw; (try dsimp only at hSw); (go_simp <;> with_reducible rfl)
                    try simp only [Act.put, List.setIfInBounds_toArray, List.set_cons_zero, List.set_cons_succ]
                    refine wpAnyH_take (i := 10) (oi := _) (v := ?_) rfl (by kernel_rfl) (by kernel_rfl) (by kernel_rfl) (fun _ _ _ h => h) (Or.inl ⟨by rfl, ?_⟩) (by assumption) ?_
                    rotate_left
                    · intro w hSw; (try dsimp only at hSw); (go_simp <;> with_reducible rfl)
                    try simp only [Act.put, List.setIfInBounds_toArray, List.set_cons_zero, List.set_cons_succ]
                    refine wpAnyH_take (i := 11) (oi := _) (v := ?_) rfl (by kernel_rfl) (by kernel_rfl) (by kernel_rfl) (fun _ _ _ h => h) (Or.inl ⟨by rfl, ?_⟩) (by assumption) ?_
                    rotate_left
                    · intro w hSw; (try dsimp only at hSw); (go_simp <;> with_reducible rfl)
                    try simp only [Act.put, List.setIfInBounds_toArray, List.set_cons_zero, List.set_cons_succ]
                    refine wpAnyH_take (i := 12) (oi := _) (v := ?_) rfl (by kernel_rfl) (by kernel_rfl) (by kernel_rfl) (fun _ _ _ h => h) (Or.inl ⟨by rfl, ?_⟩) (by assumption) ?_
                    rotate_left
                    · intro w hSw; (try dsimp only at hSw); (go_simp <;> with_reducible rfl)
                    try simp only [Act.put, List.setIfInBounds_toArray, List.set_cons_zero, List.set_cons_succ]
                    refine wpAnyH_take (i := 14) (oi := _) (v := ?_) rfl (by kernel_rfl) (by kernel_rfl) (by kernel_rfl) (fun _ _ _ h => h) (Or.inl ⟨by rfl, ?_⟩) (by assumption) ?_
                    rotate_left
                    · intro w hSw; (try dsimp only at hSw); (go_simp <;> with_reducible rfl)
                    try simp only [Act.put, List.setIfInBounds_toArray, List.set_cons_zero, List.set_cons_succ]
                    refine wpAnyH_take (i := 15) (oi := _) (v := ?_) rfl (by kernel_rfl) (by kernel_rfl) (by kernel_rfl) (fun _ _ _ h => h) (Or.inl ⟨by rfl, ?_⟩) (by assumption) ?_
                    rotate_left
                    · intro w hSw; (try dsimp only at hSw); (go_simp <;> with_reducible rfl)
                    try simp only [Act.put, List.setIfInBounds_toArray, List.set_cons_zero, List.set_cons_succ]
                    refine wpAnyH_take (i := 16) (oi := _) (v := ?_) rfl (by kernel_rfl) (by kernel_rfl) (by kernel_rfl) (fun _ _ _ h => h) (Or.inl ⟨by rfl, ?_⟩) (by assumption) ?_
                    rotate_left
                    · intro w hSw; (try dsimp only at hSw); (go_simp <;> with_reducible rfl)
                    try simp only [Act.put, List.setIfInBounds_toArray, List.set_cons_zero, List.set_cons_succ]
                    refine wpAnyH_take (i := 17) (oi := _) (v := ?_) rfl (by kernel_rfl) (by kernel_rfl) (by kernel_rfl) (fun _ _ _ h => h) (Or.inl ⟨by rfl, ?_⟩) (by assumption) ?_
                    rotate_left
                    · intro w hSw; (try dsimp only at hSw); (go_simp <;> with_reducible rfl)
                    try simp only [Act.put, List.setIfInBounds_toArray, List.set_cons_zero, List.set_cons_succ]
                    refine wpAnyH_ready (rs := [13]) (by kernel_rfl) (by simp) ?_
                    refine AllReadyH.cons (o := _) rfl (fun K hK => ?_) AllReadyH.nil
                    go_simp
                    refine hK.out _ _ ?_ (fun hHeld => ?_)
                    · exact ⟨r0, hco, cw⟩
                    clear hK K
                    try simp only [Act.put, List.setIfInBounds_toArray, List.set_cons_zero, List.set_cons_succ]
                    refine wpAnyH_ready (rs := [18]) (by kernel_rfl) (by simp) ?_
                    refine AllReadyH.cons (o := _) rfl (fun K hK => ?_) AllReadyH.nil
                    go_simp
                    go_at_call 53
                    refine (add_small sx sw vo vw _ no nw b1 b2).mono ?_
                    rintro e w8 ⟨⟨t2, rfl, hv2, hn2⟩, hb8⟩
                    have g3 : w8.frozen? ⟨bs rs[k].h, z, none⟩ = false := (by rw [hb8.frozen (by simpa using l1)]; exact fo); have g4 : w8.cell? ⟨bs rs[k].h, z, none⟩ = some (.string sx) := (by rw [hb8.cell (by simpa using l1)]; exact co); have g5 : w8.cell? ⟨og, rs[k].h, none⟩ = some (.slice (some ⟨bs rs[k].h, 0, none⟩) (M rs[k].h + 1) (M rs[k].h + 1)) := (by rw [hb8.cell (by simpa using hogl)]; exact hco); have g6 : w8.cell? ⟨wk.heap.size, 0, none⟩ = some (.int .i64 rs[k].h) := (by rw [hb8.cell (by simpa using l2)]; exact r0); have g7 : w8.cell? ⟨wb, z, none⟩ = some (.string sw) := (by rw [hb8.cell (by simpa using l3)]; exact cw)
                    refine hK.out _ _ ?_ (fun hHeld => ?_)
                    · exact ⟨g6, g5, g7⟩
                    clear hK K
                    try simp only [Act.put, List.setIfInBounds_toArray, List.set_cons_zero, List.set_cons_succ]
                    refine wpAnyH_take (i := 19) (oi := _) (v := ?_) rfl (by kernel_rfl) (by kernel_rfl) (by kernel_rfl) (fun _ _ _ h => h) (Or.inl ⟨by rfl, ?_⟩) (by assumption) ?_
                    rotate_left
                    · intro w hSw; (try dsimp only at hSw); (go_simp <;> with_reducible rfl)
                    try simp only [Act.put, List.setIfInBounds_toArray, List.set_cons_zero, List.set_cons_succ]
                    refine wpAnyH_ready (rs := [20]) (by kernel_rfl) (by simp) ?_
                    refine AllReadyH.cons (o := _) rfl (fun K hK => ?_) AllReadyH.nil
                    go_simp
                    refine hK.out _ _ ?_ (fun hHeld => ?_)
                    · exact ⟨(World.cell?_of_block (Below.heap_setCell _ _ _ _ nw1)).trans g6, (World.cell?_of_block (Below.heap_setCell _ _ _ _ nw3)).trans g5, (World.cell?_of_block (Below.heap_setCell _ _ _ _ nw2)).trans g7⟩
                    clear hK K
                    try simp only [Act.put, List.setIfInBounds_toArray, List.set_cons_zero, List.set_cons_succ]
                    refine wpAnyH_done (by kernel_rfl) ?_ _
                    all_goals (
                      have hfin : OutRow (w8.setCell ⟨bs rs[k].h, z, none⟩ (.string t2)) (w.heap.size + 1) (.slice (some ⟨og, 0, none⟩) S.syms.length cap) S.syms.length bs M (cntB (tabU S.U) rs z (k + 1)) := (OutRow.below (w := wr.drew) (HOQ.out.below ((Below.refl _ _).drew)) hb8).set (fun s i _ _ => by rw [cntB_step z k s i hltk]; exact Nat.le_add_right _ _) hh (by omega) ⟨hv2, hn2⟩ (by rw [cntB_step z k _ z hltk, if_pos ⟨rfl, rfl⟩]; omega)
                      have hfb : Below (w.heap.size + 1) w2 (w8.setCell ⟨bs rs[k].h, z, none⟩ (.string t2)) := (((hbr.trans (BKq.mono (by omega))).drew).trans (hb8.mono (by show w.heap.size + 1 ≤ wr.heap.size; omega))).setCell hbsg _
                      have HF := Lib.hid hfin
                      clear hfin g3 g4 g5 g6 g7 co cw fo r0 hco
                      go_wp2
                      go_roundw
                      case rel => first | exact ⟨k + 1, by omega, by go_num, HF.out, hfb⟩ | ((repeat apply Exists.intro); refine ⟨?_, rfl⟩; exact ⟨k + 1, by omega, by go_num, HF.out, hfb⟩)
                      case measure => simp [intOf]; omega)
            · obtain rfl : k = rs.length := by omega
              have hnx : OutRow wk (w.heap.size + 1) (.slice (some ⟨og, 0, none⟩) S.syms.length cap) S.syms.length bs M (cntB (tabU S.U) rs (z + 1) 0) := hrow.mono fun s i _ hi => cntB_next hneed.out z s i (by have := (hM s).2; omega)
              clear hrow
              go_wp2
              exact ⟨⟨z + 1, by omega, by omega, by go_num, hnx, hbr⟩, by simp [intOf]; omega⟩
        · obtain rfl : z = 10 := by omega
          have hfin : OutRow w4 (w.heap.size + 1) (.slice (some ⟨og, 0, none⟩) S.syms.length cap) S.syms.length bs M (tabU S.U) := hrow.mono fun s i _ hi => cntB_le hneed.out 10 0 s i (by have := (hM s).2; omega)
          have HF := Lib.hid hfin
          have HFB := Lib.hid (HB.trans (hbr.mono (by omega)))
          clear hrow hbr hfin
          go_wp2
          go_ret
          exact ⟨.inr ⟨_, bs, rfl, HF.out⟩, HFB.out⟩
end Go.EvNil
