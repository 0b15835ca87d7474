/-
  Contracts of functions that PipelineNil comes to, walked: second part.
-/
import Derived.Test.YthbmgkbfmddhnaaGreatDoorWalkA
import Derived.StillTailTactics
import Derived.Lib.IndexBytes
import Derived.Lib.SlBytesRow
import Derived.Deep.RegionHeld3
import Derived.Deep.RegionLaw
set_option linter.all false
namespace Go.EvNil
open Go Go.Proofs Go.RowKit

/-- Arguments of a rule: numbers of symbols. -/
def Args (w : World) (a : Option Addr) (n sn : Nat) : Prop := n ≤ 3 ∧ (0 < n → ∃ b o, a = some ⟨b, o, none⟩ ∧ b < w.heap.size ∧ ∀ i, i < n → ∃ x : Nat, x < sn ∧ w.cell? ⟨b, o + i, none⟩ = some (.int .i64 x))
theorem Args.ints {w : World} {a : Option Addr} {n sn : Nat} (h : Args w a n sn) : Ints w a n := ⟨by have := h.1; omega, fun hn => by
  obtain ⟨b, o, e, hl, hc⟩ := h.2 hn
  exact ⟨b, o, e, hl, fun i hi => by obtain ⟨x, _, hx⟩ := hc i hi; exact ⟨_, hx⟩⟩⟩
theorem Args.below {w w' : World} {a : Option Addr} {n sn : Nat} (h : Args w a n sn) (hb : Below w.heap.size w w') : Args w' a n sn :=
  ⟨h.1, fun hn => by
    obtain ⟨b, o, e, hl, hc⟩ := h.2 hn
    exact ⟨b, o, e, Nat.lt_of_lt_of_le hl hb.size, fun i hi => by obtain ⟨x, hz, hx⟩ := hc i hi; exact ⟨x, hz, by rw [hb.cell hl]; exact hx⟩⟩⟩

/-- A rule at a place. -/
structure RuleAt (T : ByteArray → ByteArray → Prop) (w : World) (b o sn : Nat) (h : Nat) (op pa : ByteArray) (aa : Option Addr) (al ac : Nat) : Prop where
  c0 : w.cell? ⟨b, o, none⟩ = some (.int .i64 h)
  c1 : w.cell? ⟨b, o + 1, none⟩ = some (.string op)
  c2 : w.cell? ⟨b, o + 2, none⟩ = some (.string pa)
  c3 : w.cell? ⟨b, o + 3, none⟩ = some (.slice aa al ac)
  hlt : h < sn
  t : T op pa
  opz : op.size ≤ maxLen
  paz : pa.size ≤ maxLen
  args : Args w aa al sn

/-- Rules that can be read. -/
def Rules (T : ByteArray → ByteArray → Prop) (w : World) (a : Option Addr) (n sn : Nat) : Prop := n ≤ 1000 ∧ (0 < n → ∃ b o, a = some ⟨b, o, none⟩ ∧ b < w.heap.size ∧ ∀ i, i < n → ∃ h op pa aa al ac, RuleAt T w b (o + i * 4) sn h op pa aa al ac)
theorem RuleAt.below {T : ByteArray → ByteArray → Prop} {w w' : World} {b o sn h : Nat} {op pa : ByteArray} {aa : Option Addr} {al ac : Nat} (r : RuleAt T w b o sn h op pa aa al ac) (hl : b < w.heap.size) (hb : Below w.heap.size w w') : RuleAt T w' b o sn h op pa aa al ac :=
  ⟨by rw [hb.cell hl]; exact r.c0, by rw [hb.cell hl]; exact r.c1, by rw [hb.cell hl]; exact r.c2, by rw [hb.cell hl]; exact r.c3, r.hlt, r.t, r.opz, r.paz, r.args.below hb⟩
theorem Rules.below {T : ByteArray → ByteArray → Prop} {w w' : World} {a : Option Addr} {n sn : Nat} (h : Rules T w a n sn) (hb : Below w.heap.size w w') : Rules T w' a n sn :=
  ⟨h.1, fun hn => by
    obtain ⟨b, o, e, hl, hc⟩ := h.2 hn
    exact ⟨b, o, e, Nat.lt_of_lt_of_le hl hb.size, fun i hi => by obtain ⟨hd, op, pa, aa, al, ac, r⟩ := hc i hi; exact ⟨hd, op, pa, aa, al, ac, r.below hl hb⟩⟩⟩

theorem bcell {W w1 : World} (hb : Below W.heap.size W w1) : (∀ b o, b < W.heap.size → w1.cell? ⟨b, o, none⟩ = W.cell? ⟨b, o, none⟩) ∧ (∀ b o, b < W.heap.size → w1.frozen? ⟨b, o, none⟩ = W.frozen? ⟨b, o, none⟩) :=
  ⟨fun b o h => hb.cell (p := ⟨b, o, none⟩) h, fun b o h => hb.frozen (p := ⟨b, o, none⟩) h⟩

/-- A block known whole: its cells. -/
theorem cellOf {w : World} {b i : Nat} {cs : Array Value} {t : TypeId} {v : Value} (h : w.heap[b]? = some (.cells cs t (0, 0))) (hi : cs[i]? = some v) : w.cell? ⟨b, i, none⟩ = some v := by simp [World.cell?, h, hi]

theorem heapNew (w : World) (o : Obj) : (w.alloc o).heap[w.heap.size]? = some o := heap_alloc_new w o
theorem heapOld (w : World) (o : Obj) {k : Nat} (h : k < w.heap.size) : (w.alloc o).heap[k]? = w.heap[k]? := Below.heap_alloc w o k h
theorem sizeNew (w : World) (o : Obj) : (w.alloc o).heap.size = w.heap.size + 1 := by simp

/-- The first loop of rightRule and what follows, from a world that has the two boxes. -/
def Boxes (w2 : World) (g r : Nat) (G R : Array Value) : Prop := g < w2.heap.size ∧ r < w2.heap.size ∧ w2.heap[g]? = some (.cells G 28 (0, 0)) ∧ w2.heap[r]? = some (.cells R 112 (0, 0))
theorem Boxes.below {w w' : World} {g r : Nat} {G R : Array Value} (h : Boxes w g r G R) (hb : Below w.heap.size w w') : Boxes w' g r G R :=
  ⟨Nat.lt_of_lt_of_le h.1 hb.size, Nat.lt_of_lt_of_le h.2.1 hb.size, by rw [hb.block g h.1]; exact h.2.2.1, by rw [hb.block r h.2.1]; exact h.2.2.2⟩

set_option maxRecDepth 100000 in
set_option maxHeartbeats 4000000 in
theorem rightRule_any (T : ByteArray → ByteArray → Prop) (nm ver cs st : Value) (sa ra : Option Addr) (sn sc rn rc k : Nat) (w : World) (hS : Syms w sa sn) (hR : Rules T w ra rn sn) (hk : k < rn) :
    Calls Tryz.prog 97 #[.agg #[nm, ver, cs, .slice sa sn sc, .slice ra rn rc, st], .int .i64 k] w fun e w' => RetB e ∧ Below w.heap.size w w' := by
  have hR' := hR
  obtain ⟨hle, hR⟩ := hR
  obtain ⟨b, o, rfl, hb, hc⟩ := hR (by omega)
  obtain ⟨h, op, pa, aa, al, ac, r⟩ := hc k hk
  have i1 : (k : Int) < (rn : Int) := by omega
  have c0 := r.c0
  have c1 := r.c1
  have c2 := r.c2
  have c3 := r.c3
  have hal : decide ((3 : Int) < (al : Int)) = false := by have := r.args.1; simp; omega
  have HB2 : ∀ o1 o2, Below w.heap.size w ((w.alloc o1).alloc o2) := fun o1 o2 => ((Below.refl _ _).alloc (Nat.le_refl _) _).alloc (by simp) _
  go_enter Tryz.func97, Tryz.ntmps97
  go_wp2_with (first
    | (go_at_call 94; refine (name_any op _ r.opz).mono ?_; rintro e w' ⟨⟨r1, rfl⟩, rfl⟩)
    | (go_at_call 123; refine (param_any pa _ r.paz).mono ?_; rintro e w' ⟨⟨r2, rfl⟩, rfl⟩)
    | (go_at_call 144; refine (symbolName_any _ _ _ _ _ sa sn sc _ _ (hS.below (HB2 _ _))).mono ?_; rintro e w3 ⟨⟨sname, rfl⟩, hb3⟩))
  all_goals first
    | (go_ret; exact ⟨⟨_, rfl⟩, HB2 _ _⟩)
    | (go_ret; exact ⟨⟨_, rfl⟩, (HB2 _ _).trans (hb3.mono (by simp; omega))⟩)
    | skip
  have hz3 : w.heap.size + 2 ≤ w3.heap.size := by have := hb3.size; simp at this; omega
  have HX : Boxes w3 w.heap.size (w.heap.size + 1) #[nm, ver, cs, .slice sa sn sc, .slice (some ⟨b, o, none⟩) rn rc, st] #[.int .i64 h, .string op, .string pa, .slice aa al ac] := by
    refine ⟨by omega, by omega, ?_, ?_⟩
    · rw [hb3.block _ (by simp only [sizeNew]; omega)]
      rw [heapOld _ _ (by simp only [sizeNew]; omega)]
      exact heapNew w _
    · rw [hb3.block _ (by simp only [sizeNew]; omega)]
      have := heapNew (w.alloc (.cells #[nm, ver, cs, .slice sa sn sc, .slice (some ⟨b, o, none⟩) rn rc, st] 28)) (.cells #[.int .i64 h, .string op, .string pa, .slice aa al ac] 112)
      rw [sizeNew] at this
      exact this
  have HB3 : Below w.heap.size w w3 := (HB2 _ _).trans (hb3.mono (by simp; omega))
  clear hb3
  rw [show (sname.toList == [32]) = false by assumption]
  go_loopw [8] (fun i wr => ∃ j : Nat, j ≤ al ∧ i = .int .i64 j ∧ Below w3.heap.size w3 wr) (fun i _ => al - (intOf i).toNat)
  case atStart => exact ⟨0, Nat.zero_le _, rfl, Below.refl _ _⟩
  case round =>
    obtain ⟨wo, rfl⟩ : ∃ wo : World, wo = wr := ⟨_, rfl⟩
    obtain ⟨j, hj, rfl, hbr⟩ := hrel
    have HXr := HX.below hbr
    have HBr : Below w.heap.size w wo := HB3.trans (hbr.mono (by omega))
    have d3 := cellOf (i := 3) HXr.2.2.2 rfl
    by_cases hlt : j < al
    · obtain ⟨ab, ao, rfl, hab, hax⟩ := (r.args.below HBr).2 (by omega)
      obtain ⟨x, hx, hcx⟩ := hax j hlt
      have e0 := cellOf (i := 0) HXr.2.2.1 rfl
      have e1 := cellOf (i := 1) HXr.2.2.1 rfl
      have e2 := cellOf (i := 2) HXr.2.2.1 rfl
      have e3 := cellOf (i := 3) HXr.2.2.1 rfl
      have e4 := cellOf (i := 4) HXr.2.2.1 rfl
      have e5 := cellOf (i := 5) HXr.2.2.1 rfl
      have j1 : (0 : Int) ≤ (j : Int) := by omega
      have j2 : (j : Int) < (al : Int) := by omega
      have j3 : (j : Int) ≤ 1000 := by have := r.args.1; omega
      go_wp2
      go_still_tail 6, (by kernel_rfl)
      go_wp2_with (go_at_call 144; refine (symbolName_any _ _ _ _ _ sa sn sc _ _ (hS.below HBr.drew)).mono ?_; rintro e w4 ⟨⟨sname2, rfl⟩, hb4⟩)
      all_goals first
        | (go_roundw
           case rel => first | exact ⟨j + 1, by omega, by go_num, (hbr.drew).trans (hb4.mono hbr.size)⟩ | ((repeat apply Exists.intro); refine ⟨?_, rfl⟩; exact ⟨j + 1, by omega, by go_num, (hbr.drew).trans (hb4.mono hbr.size)⟩)
           case measure => simp [intOf]; omega)
        | (go_ret; exact ⟨⟨_, rfl⟩, HBr.drew.trans (hb4.mono HBr.size)⟩)
    · go_wp2
      go_loopw [9] (fun i wq => ∃ m : Nat, m ≤ k ∧ i = .int .i64 m ∧ Below wo.heap.size wo wq) (fun i _ => k - (intOf i).toNat)
      case atStart => exact ⟨0, Nat.zero_le _, rfl, Below.refl _ _⟩
      case round =>
        obtain ⟨m, hm, rfl, hbq⟩ := hrel
        have HXq := HXr.below hbq
        have HBq : Below w.heap.size w wr := HBr.trans (hbq.mono HBr.size)
        by_cases hlt2 : m < k
        · obtain ⟨h', op', pa', aa', al', ac', r'⟩ := hc m (by omega)
          have rq := r'.below hb HBq
          have f0 := rq.c0
          have f1 := rq.c1
          have f2 := rq.c2
          have f3 := rq.c3
          have e4 := cellOf (i := 4) HXq.2.2.1 rfl
          have g0 := cellOf (i := 0) HXq.2.2.2 rfl
          have g1 := cellOf (i := 1) HXq.2.2.2 rfl
          have g2 := cellOf (i := 2) HXq.2.2.2 rfl
          have g3 := cellOf (i := 3) HXq.2.2.2 rfl
          have j1 : (0 : Int) ≤ (m : Int) := by omega
          have j2 : (m : Int) < (rn : Int) := by omega
          have j3 : (m : Int) ≤ 1000 := by omega
          go_wp2
          go_still_tail 6, (by kernel_rfl)
          go_wp2_with (go_at_call 124; refine (sameRule_any _ _ _ _ _ _ aa' aa al' al ac' ac _ (r'.args.ints.below HBq.drew) (r.args.ints.below HBq.drew)).mono ?_; rintro e w4 ⟨⟨r4, rfl⟩, hb4⟩)
          all_goals first
            | (go_roundw
               case rel => first | exact ⟨m + 1, by omega, by go_num, (hbq.drew).trans (hb4.mono hbq.size)⟩ | ((repeat apply Exists.intro); refine ⟨?_, rfl⟩; exact ⟨m + 1, by omega, by go_num, (hbq.drew).trans (hb4.mono hbq.size)⟩)
               case measure => simp [intOf]; omega)
            | (go_ret; exact ⟨⟨_, rfl⟩, HBq.drew.trans (hb4.mono HBq.size)⟩)
        · go_wp2
          all_goals (go_ret; exact ⟨⟨_, rfl⟩, HBq⟩)
end Go.EvNil

namespace Go.EvNil
open Go Go.Proofs Go.RowKit

/-- Columns that can be read. -/
def Cols (w : World) (a : Option Addr) (n : Nat) : Prop := n ≤ 1000 ∧ (0 < n → ∃ b o, a = some ⟨b, o, none⟩ ∧ b < w.heap.size ∧ ∀ i, i < n → ∃ (s : ByteArray) (k : Int), s.size ≤ maxLen ∧ w.cell? ⟨b, o + i * 2, none⟩ = some (.string s) ∧ w.cell? ⟨b, o + i * 2 + 1, none⟩ = some (.int .i64 k))
theorem Cols.below {w w' : World} {a : Option Addr} {n : Nat} (h : Cols w a n) (hb : Below w.heap.size w w') : Cols w' a n :=
  ⟨h.1, fun hn => by
    obtain ⟨b, o, e, hl, hc⟩ := h.2 hn
    exact ⟨b, o, e, Nat.lt_of_lt_of_le hl hb.size, fun i hi => by
      obtain ⟨s, k, h1, h2, h3⟩ := hc i hi
      exact ⟨s, k, h1, by rw [hb.cell hl]; exact h2, by rw [hb.cell hl]; exact h3⟩⟩⟩

theorem info9 : (Tryz.prog.info? 9).map (fun i => (i.zero, i.size, i.bytes)) = some (some (.string ⟨#[]⟩), 1, 16) := by kernel_rfl

/-- A slice of strings of the call's own. -/
def Own (base : Nat) (v : Value) (k : Nat) (w : World) : Prop := ∃ xs : List ByteArray, xs.length = k ∧ (∀ s ∈ xs, s.size ≤ maxLen) ∧ w.ownsRow base 9 1 v k (xs.map Value.string)

/-- The box of the grammar. -/
def Box (w : World) (g : Nat) (G : Array Value) : Prop := g < w.heap.size ∧ w.heap[g]? = some (.cells G 28 (0, 0))
theorem Box.below {w w' : World} {g : Nat} {G : Array Value} {B : Nat} (h : Box w g G) (hg : g < B) (hb : Below B w w') : Box w' g G :=
  ⟨Nat.lt_of_lt_of_le h.1 hb.size, by rw [hb.block g hg]; exact h.2⟩

theorem Own.below {base k : Nat} {v : Value} {w w' : World} (h : Own base v k w) (hb : Below w.heap.size w w') : Own base v k w' := by
  obtain ⟨xs, h1, h2, h3, h4⟩ := h
  refine ⟨xs, h1, h2, h3, ?_⟩
  rcases h4 with h4 | ⟨g, cap, cur, e1, e2, e3, e4⟩
  · exact .inl h4
  · exact .inr ⟨g, cap, cur, e1, e2, by rw [hb.block g (Array.getElem?_eq_some_iff.1 e3).1]; exact e3, e4⟩

theorem Own.strs {base k : Nat} {w : World} {a : Option Addr} {n c : Nat} (h : Own base (.slice a n c) k w) (hk : k ≤ 1000) : Strs w a n := by
  have hkn : k = n := by
    obtain ⟨xs, h1, h2, h3, h4⟩ := h
    rcases h4 with ⟨h4, h5⟩ | ⟨g, cap, cur, e1, _⟩
    · cases h4; exact h5
    · cases e1; rfl
  subst hkn
  obtain ⟨xs, h1, h2, h3, h4⟩ := h
  rcases h4 with ⟨h4, h5⟩ | ⟨g, cap, cur, e1, e2, e3, e4, e5, e6, e7⟩
  · exact ⟨by omega, fun hn => by omega⟩
  · cases e1
    refine ⟨hk, fun hn => ⟨g, 0, rfl, (Array.getElem?_eq_some_iff.1 e3).1, fun i hi => ?_⟩⟩
    have hi' : i < xs.length := by omega
    refine ⟨xs[i], h2 _ (List.getElem_mem hi'), ?_⟩
    have : (cur.toList.take (k * 1))[i]? = some (Value.string xs[i]) := by rw [e7]; simp [hi']
    rw [List.getElem?_take, if_pos (by omega)] at this
    simp only [World.cell?, e3, Nat.zero_add]
    simpa using this

theorem Own.form {base k : Nat} {v : Value} {w : World} (h : Own base v k w) : ∃ a c, v = .slice a k c := by
  obtain ⟨xs, h1, h2, h3, h4⟩ := h
  rcases h4 with ⟨h4, h5⟩ | ⟨g', cap, cur, e1, e2, _⟩
  · subst h5; exact ⟨_, _, h4⟩
  · exact ⟨_, _, e1⟩

theorem news1 (w : World) (s : ByteArray) : ∀ (j : Nat) (u : Value), [Value.string s][j]? = some u → (w.alloc (.cells #[.string s] 9)).cell? ((⟨w.heap.size, 0, none⟩ : Addr).add j) = some u := by
  intro j u hj
  cases j with
  | zero =>
    simp at hj
    subst hj
    exact cellOf (i := 0) (heapNew w _) rfl
  | succ j => simp at hj

theorem own_ge {base k : Nat} {v : Value} {w : World} (h : Own base v k w) : ∀ g, v.ownBlock = some g → base ≤ g := by
  intro g hg
  obtain ⟨xs, h1, h2, h3, h4⟩ := h
  rcases h4 with ⟨h4, h5⟩ | ⟨g', cap, cur, e1, e2, _⟩
  · subst h4; simp [Value.ownBlock] at hg
  · subst e1; simp [Value.ownBlock] at hg; omega

set_option maxRecDepth 100000 in
set_option maxHeartbeats 8000000 in
theorem right_any (T : ByteArray → ByteArray → Prop) (nm : ByteArray) (ver st : Int) (ca sa ra : Option Addr) (cn cc sn sc rn rc : Nat) (w : World) (hz : nm.size ≤ maxLen) (hC : Cols w ca cn) (hS : Syms w sa sn) (hR : Rules T w ra rn sn)
    (v1 : decide (ver < 0) = false) (v2 : decide (1000000000 < ver) = false) (v3 : decide ((8 : Int) < (cn : Int)) = false) (v4 : decide ((sn : Int) < 1) = false) (v5 : decide ((12 : Int) < (sn : Int)) = false) (v6 : decide ((40 : Int) < (rn : Int)) = false) (v7 : decide (st < 0) = false) (v8 : decide ((sn : Int) ≤ st) = false) :
    Calls Tryz.prog 50 #[.agg #[.string nm, .int .i64 ver, .slice ca cn cc, .slice sa sn sc, .slice ra rn rc, .int .i64 st]] w fun e w' => RetB e ∧ Below w.heap.size w w' := by
  have HB1 : ∀ o1, Below w.heap.size w (w.alloc o1) := fun o1 => (Below.refl _ _).alloc (Nat.le_refl _) _
  have hcn : cn ≤ 8 := by have := of_decide_eq_false v3; omega
  obtain ⟨i0, hi0, hz0, hz1, hz2⟩ := info_parts info9
  go_enter Tryz.func50, Tryz.ntmps50
  go_wp2_with (go_at_call 94; refine (name_any nm _ hz).mono ?_; rintro e w' ⟨⟨r1, rfl⟩, rfl⟩)
  all_goals first
    | (go_ret; exact ⟨⟨_, rfl⟩, HB1 _⟩)
    | skip
  have HX : Box (w.alloc (.cells #[.string nm, .int .i64 ver, .slice ca cn cc, .slice sa sn sc, .slice ra rn rc, .int .i64 st] 28)) w.heap.size #[.string nm, .int .i64 ver, .slice ca cn cc, .slice sa sn sc, .slice ra rn rc, .int .i64 st] := ⟨by simp, heapNew w _⟩
  have HB := HB1 (.cells #[.string nm, .int .i64 ver, .slice ca cn cc, .slice sa sn sc, .slice ra rn rc, .int .i64 st] 28)
  have hs1 := sizeNew w (.cells #[.string nm, .int .i64 ver, .slice ca cn cc, .slice sa sn sc, .slice ra rn rc, .int .i64 st] 28)
  generalize w.alloc (.cells #[.string nm, .int .i64 ver, .slice ca cn cc, .slice sa sn sc, .slice ra rn rc, .int .i64 st] 28) = w1 at *
  go_loopw [4, 5] (fun v i wr => ∃ k : Nat, k ≤ cn ∧ i = .int .i64 k ∧ Own (w.heap.size + 1) v k wr ∧ Below (w.heap.size + 1) w1 wr) (fun _ i _ => cn - (intOf i).toNat)
  case atStart => exact ⟨0, Nat.zero_le _, rfl, ⟨[], rfl, by simp, by simp, .inl ⟨rfl, rfl⟩⟩, Below.refl _ _⟩
  case round =>
    obtain ⟨k, hk, rfl, hown, hbr⟩ := hrel
    have HXr := HX.below (by omega) hbr
    have HBr : Below w.heap.size w wr := HB.trans (hbr.mono (by omega))
    have e2 := cellOf (i := 2) HXr.2 rfl
    have hlt1 := HXr.1
    by_cases hlt : k < cn
    · obtain ⟨cb, co, rfl, hcb, hcc⟩ := (hC.below HBr).2 (by omega)
      obtain ⟨s, kd, hs, f0, f1⟩ := hcc k hlt
      have j2 : (k : Int) < (cn : Int) := by omega
      have j3 : (k : Int) ≤ 1000 := by omega
      go_wp2_with (first
        | (go_at_call 95; refine (kindName_any kd _).mono ?_; rintro e w5 ⟨⟨sk, rfl⟩, hb5⟩; obtain ⟨hc5, hf5⟩ := bcell hb5; obtain ⟨xs, hx1, hx2, hx5⟩ := hown.below hb5)
        | (at_builtin; refine wpList_append_own _ rfl _ _ 38 rfl (w.heap.size + 1) 9 i0 (.string ⟨#[]⟩) 1 16 Tryz.underlying38 hi0 hz0 hz1 hz2 rfl (by decide) _ _ _ rfl (hx5.alloc _) ⟨w5.heap.size, 0, none⟩ 1 1 [.string s] rfl rfl ?c1 ?c2 ?c3 ?c4 ?c5 ?_))
      · go_ret
        exact ⟨⟨_, rfl⟩, HBr.trans (hb5.mono HBr.size)⟩
      case c1 => exact news1 w5 s
      case c2 => simp [Value.oneCell']
      case c3 => unfold maxLen; omega
      case c4 => omega
      case c5 => have := hb5.size; simp; omega
      intro v' w6 hown6 hgrow6 _
      have HB6 : Below (w.heap.size + 1) w1 w6 := ((hbr.trans (hb5.mono (by omega))).alloc (by have := hb5.size; omega) _).grown hgrow6 (by have := hb5.size; simp; omega) (own_ge hown)
      have HO6 : Own (w.heap.size + 1) v' (k + 1) w6 := ⟨xs ++ [s], by simp [hx1], fun x hx => by
        rcases List.mem_append.1 hx with h | h
        · exact hx2 x h
        · simp at h; subst h; exact hs, by simpa using hown6⟩
      clear hown6 hgrow6 hx5 hc5 hf5 hb5
      go_wp2
      go_roundw
      case rel => exact ⟨k + 1, by omega, by go_num, HO6, HB6⟩
      case measure => simp [intOf]; omega
    · obtain ⟨wo, rfl⟩ : ∃ wo : World, wo = wr := ⟨_, rfl⟩
      obtain ⟨a4, c4, rfl⟩ := hown.form
      have hsn : sn ≤ 12 := by have := of_decide_eq_false v5; omega
      have hrn : rn ≤ 40 := by have := of_decide_eq_false v6; omega
      have hlto := HXr.1
      go_wp2
      go_loopw [6, 7] (fun v i wq => ∃ m : Nat, m ≤ sn ∧ i = .int .i64 m ∧ Own wo.heap.size v m wq ∧ Below wo.heap.size wo wq) (fun _ i _ => sn - (intOf i).toNat)
      case atStart => exact ⟨0, Nat.zero_le _, rfl, ⟨[], rfl, by simp, by simp, .inl ⟨rfl, rfl⟩⟩, Below.refl _ _⟩
      case round =>
        obtain ⟨m, hm, rfl, hownq, hbq⟩ := hrel
        have HXq := HXr.below hlto hbq
        have HBq : Below w.heap.size w wr := HBr.trans (hbq.mono HBr.size)
        have e3 := cellOf (i := 3) HXq.2 rfl
        have hltq := HXq.1
        by_cases hltm : m < sn
        · obtain ⟨sb, so, rfl, hsb, hcc⟩ := (hS.below HBq).2 (by omega)
          obtain ⟨s, kd, mx, hs, f0, f1, f2, m0, m9⟩ := hcc m hltm
          have j2 : (m : Int) < (sn : Int) := by omega
          have j3 : (m : Int) ≤ 1000 := by omega
          go_wp2_with (first
            | (go_at_call 95; refine (kindName_any kd _).mono ?_; rintro e w5 ⟨⟨sk, rfl⟩, hb5⟩; obtain ⟨hc5, hf5⟩ := bcell hb5; obtain ⟨xs, hx1, hx2, hx5⟩ := hownq.below hb5)
            | (at_builtin; refine wpList_append_own _ rfl _ _ 38 rfl wo.heap.size 9 i0 (.string ⟨#[]⟩) 1 16 Tryz.underlying38 hi0 hz0 hz1 hz2 rfl (by decide) _ _ _ rfl (hx5.alloc _) ⟨w5.heap.size, 0, none⟩ 1 1 [.string s] rfl rfl ?c1 ?c2 ?c3 ?c4 ?c5 ?_))
          · go_ret
            exact ⟨⟨_, rfl⟩, HBq.trans (hb5.mono HBq.size)⟩
          · go_ret
            exact ⟨⟨_, rfl⟩, HBq.trans (hb5.mono HBq.size)⟩
          case c1 => exact news1 w5 s
          case c2 => simp [Value.oneCell']
          case c3 => unfold maxLen; omega
          case c4 => omega
          case c5 => have := hb5.size; have := hbq.size; simp; omega
          · intro v' w6 hown6 hgrow6 _
            have HB6 : Below wo.heap.size wo w6 := ((hbq.trans (hb5.mono hbq.size)).alloc (by have := hb5.size; have := hbq.size; omega) _).grown hgrow6 (by have := hb5.size; have := hbq.size; simp; omega) (own_ge hownq)
            have HO6 : Own wo.heap.size v' (m + 1) w6 := ⟨xs ++ [s], by simp [hx1], fun x hx => by
              rcases List.mem_append.1 hx with h | h
              · exact hx2 x h
              · simp at h; subst h; exact hs, by simpa using hown6⟩
            clear hown6 hgrow6 hx5 hc5 hf5 hb5
            go_wp2
            go_roundw
            case rel => first | exact ⟨m + 1, by omega, by go_num, HO6, HB6⟩ | ((repeat apply Exists.intro); refine ⟨?_, rfl⟩; exact ⟨m + 1, by omega, by go_num, HO6, HB6⟩)
            case measure => simp [intOf]; omega
          · go_ret
            exact ⟨⟨_, rfl⟩, HBq.trans (hb5.mono HBq.size)⟩
        · obtain ⟨wp, rfl⟩ : ∃ wp : World, wp = wr := ⟨_, rfl⟩
          obtain ⟨a6, c6, rfl⟩ := hownq.form
          have S4 : Strs wp a4 k := (hown.below hbq).strs (by omega)
          have S6 : ∀ q, Strs (wp.drewN q) a6 m := fun q => (hownq.strs (by omega)).below (Drawn.below ⟨q, rfl⟩ _)
          go_wp2_with (first
            | (go_at_call 96; ((with_reducible refine (unique_any a4 k c4 _ S4).mono ?_); rintro e w' ⟨⟨r8, rfl⟩, q8, rfl⟩))
            | (go_at_call 96; ((with_reducible refine (unique_any a6 m c6 _ (S6 _)).mono ?_); rintro e w' ⟨⟨r9, rfl⟩, q9, rfl⟩)))
          all_goals first
            | (go_ret; exact ⟨⟨_, rfl⟩, HBq.trans (Drawn.below ⟨_, rfl⟩ _)⟩)
            | skip
          have h8 : r8 = true := by assumption
          subst h8
          have h9 : r9 = true := by
            have h9' : (!r9) = false := by assumption
            simpa using h9'
          subst h9
          have HXz : Box (wp.drewN (q8 + q9)) w.heap.size #[.string nm, .int .i64 ver, .slice ca cn cc, .slice sa sn sc, .slice ra rn rc, .int .i64 st] := HXq
          have HBz : Below w.heap.size w (wp.drewN (q8 + q9)) := HBq.trans (Drawn.below ⟨_, rfl⟩ _)
          generalize wp.drewN (q8 + q9) = wz at HXz HBz ⊢
          go_loopw [10] (fun i wy => ∃ q : Nat, q ≤ rn ∧ i = .int .i64 q ∧ Below wz.heap.size wz wy) (fun i _ => rn - (intOf i).toNat)
          case atStart => exact ⟨0, Nat.zero_le _, rfl, Below.refl _ _⟩
          case round =>
            obtain ⟨q, hq, rfl, hby⟩ := hrel
            have HXy := HXz.below HXz.1 hby
            have HBy : Below w.heap.size w wr := HBz.trans (hby.mono HBz.size)
            have e0 := cellOf (i := 0) HXy.2 rfl
            have e1 := cellOf (i := 1) HXy.2 rfl
            have e2' := cellOf (i := 2) HXy.2 rfl
            have e3' := cellOf (i := 3) HXy.2 rfl
            have e4 := cellOf (i := 4) HXy.2 rfl
            have e5 := cellOf (i := 5) HXy.2 rfl
            by_cases hlq : q < rn
            · have j3 : (q : Int) ≤ 1000 := by omega
              go_wp2_with (go_at_call 97; refine (rightRule_any T _ _ _ _ sa ra sn sc rn rc q _ (hS.below HBy) (hR.below HBy) hlq).mono ?_; rintro e w7 ⟨⟨r7, rfl⟩, hb7⟩)
              all_goals first
                | (go_roundw
                   case rel => first | exact ⟨q + 1, by omega, by go_num, hby.trans (hb7.mono hby.size)⟩ | ((repeat apply Exists.intro); refine ⟨?_, rfl⟩; exact ⟨q + 1, by omega, by go_num, hby.trans (hb7.mono hby.size)⟩)
                   case measure => simp [intOf]; omega)
                | (go_ret; exact ⟨⟨_, rfl⟩, HBy.trans (hb7.mono HBy.size)⟩)
            · go_wp2
              all_goals (go_ret; exact ⟨⟨_, rfl⟩, HBy⟩)
end Go.EvNil

namespace Go.EvNil

def V (l : List UInt8) : Nat := l.foldl (fun n c => n * 256 + c.toNat) 0

theorem V_foldl (l : List UInt8) : ∀ n, l.foldl (fun n c => n * 256 + c.toNat) n = n * 256 ^ l.length + V l := by
  induction l with
  | nil => intro n; simp [V]
  | cons c l ih =>
    intro n
    simp only [List.foldl_cons, List.length_cons, V]
    rw [ih, ih (0 * 256 + c.toNat), Nat.pow_succ]
    have : n * (256 ^ l.length * 256) = n * 256 * 256 ^ l.length := by rw [Nat.mul_assoc, Nat.mul_comm 256]
    rw [this]
    simp only [Nat.zero_mul, Nat.zero_add, Nat.add_mul]
    omega

theorem V_cons (c : UInt8) (l : List UInt8) : V (c :: l) = c.toNat * 256 ^ l.length + V l := by
  show (c :: l).foldl _ 0 = _
  rw [List.foldl_cons, V_foldl]
  simp

theorem V_snoc (l : List UInt8) (c : UInt8) : V (l ++ [c]) = V l * 256 + c.toNat := by
  unfold V
  rw [List.foldl_append]
  rfl

theorem V_nil : V [] = 0 := rfl

theorem V_lt : ∀ (l : List UInt8), V l < 256 ^ l.length
  | [] => by simp [V]
  | c :: l => by
    rw [V_cons, List.length_cons, Nat.pow_succ]
    have h1 := V_lt l
    have h2 := UInt8.toNat_lt c
    have h3 : c.toNat * 256 ^ l.length ≤ 255 * 256 ^ l.length := Nat.mul_le_mul_right _ (by omega)
    omega

/-- Zeros in front count nothing. -/
theorem V_drop (l : List UInt8) : ∀ (k : Nat), (∀ i, i < k → l[i]? = some 0) → V (l.drop k) = V l
  | 0, _ => by simp
  | k + 1, h => by
    have h0 := V_drop l k fun i hi => h i (by omega)
    have hk := h k (by omega)
    obtain ⟨hlt, hk⟩ := List.getElem?_eq_some_iff.1 hk
    rw [List.drop_eq_getElem_cons hlt, V_cons, hk] at h0
    simpa using h0

/-- A first byte that is not 0: the length is the least one. -/
theorem V_len {c : UInt8} {l : List UInt8} (hc : c ≠ 0) {n : Nat} (h : V (c :: l) < 256 ^ n) : (c :: l).length ≤ n := by
  rw [V_cons] at h
  have h1 : 1 ≤ c.toNat := by
    have : c.toNat ≠ 0 := fun e => hc (UInt8.toNat_inj.1 (by simpa using e))
    omega
  have h2 : 256 ^ l.length ≤ c.toNat * 256 ^ l.length := Nat.le_mul_of_pos_left _ h1
  have h3 : 256 ^ l.length < 256 ^ n := by omega
  have := (Nat.pow_lt_pow_iff_right (by omega)).1 h3
  simp only [List.length_cons]
  omega

/-- t is s without zeros in front, as far as it matters. -/
def Same (s t : ByteArray) : Prop := V t.data.toList = V s.data.toList ∧ t.size ≤ s.size ∧ ∀ n, V s.data.toList < 256 ^ n → t.size ≤ n

theorem same_drop (s t : ByteArray) (k : Nat) (e1 : t.data.toList = s.data.toList.drop k) (hk : k ≤ s.data.toList.length) (hz : ∀ j, j < k → s.data.toList[j]? = some 0) (he : ∀ h : k < s.data.toList.length, s.data.toList[k] ≠ 0) : Same s t := by
  have l1 : s.data.toList.length = s.size := Array.length_toList
  have l2 : t.data.toList.length = t.size := Array.length_toList
  have l3 : t.size = s.size - k := by rw [← l2, e1, List.length_drop, l1]
  refine ⟨by rw [e1]; exact V_drop _ _ hz, by omega, fun n hn => ?_⟩
  by_cases h : k < s.data.toList.length
  · rw [← V_drop _ _ hz, List.drop_eq_getElem_cons h] at hn
    have h2 := V_len (he h) hn
    rw [← List.drop_eq_getElem_cons h, ← e1, l2] at h2
    exact h2
  · omega

theorem zeros_snoc {l : List UInt8} {k : Nat} (hz : ∀ j, j < k → l[j]? = some 0) (h : l[k]? = some 0) : ∀ j, j < k + 1 → l[j]? = some 0 := fun j hj => by
  by_cases e : j = k
  · subst e; exact h
  · exact hz j (by omega)

/-- The first j bytes of a number of eight bytes. -/
def bl (n j : Nat) : List Int := (List.range j).map fun i => (((n / 2 ^ (56 - 8 * i)) % 256 : Nat) : Int)

theorem ofNat_mod (k : Nat) : (UInt8.ofNat (k % 256)).toNat = k % 256 := by
  rw [UInt8.toNat_ofNat']; omega

theorem V_bl (n : Nat) (h : n < 36028797018963968) : V ((bl n 8).map fun x => UInt8.ofNat x.toNat) = n := by
  have e : (bl n 8).map (fun x => UInt8.ofNat x.toNat) = [UInt8.ofNat (n / 72057594037927936 % 256), UInt8.ofNat (n / 281474976710656 % 256), UInt8.ofNat (n / 1099511627776 % 256), UInt8.ofNat (n / 4294967296 % 256), UInt8.ofNat (n / 16777216 % 256), UInt8.ofNat (n / 65536 % 256), UInt8.ofNat (n / 256 % 256), UInt8.ofNat (n / 1 % 256)] := rfl
  rw [e]
  simp only [V, List.foldl_cons, List.foldl_nil, ofNat_mod]
  omega

/-- What the row a of a product gives to the place i. -/
def rowC (W C : Nat → Nat) (n i a : Nat) : Nat := if a < i ∧ i - a < n then W a * C (i - a) else 0
/-- The first k rows together. -/
def sumC (W C : Nat → Nat) (n i : Nat) : Nat → Nat
  | 0 => 0
  | k + 1 => sumC W C n i k + rowC W C n i k
/-- The rows before a, and of the row a the columns before b. -/
def partC (W C : Nat → Nat) (n a b i : Nat) : Nat := sumC W C n i a + (if a < i ∧ i - a < b ∧ i - a < n then W a * C (i - a) else 0)

theorem partC_start (W C : Nat → Nat) (n a i : Nat) : partC W C n a 1 i = sumC W C n i a := by
  unfold partC
  rw [if_neg (by omega)]
  omega
theorem partC_le (W C : Nat → Nat) (n a b i : Nat) : partC W C n a b i ≤ sumC W C n i (a + 1) := by
  unfold partC
  show _ ≤ sumC W C n i a + rowC W C n i a
  unfold rowC
  by_cases h : a < i ∧ i - a < b ∧ i - a < n
  · rw [if_pos h, if_pos ⟨h.1, h.2.2⟩]; omega
  · rw [if_neg h]; omega
theorem partC_step (W C : Nat → Nat) (n a b : Nat) (h0 : 0 < b) (hb : b < n) : partC W C n a b (a + b) + W a * C b = partC W C n a (b + 1) (a + b) := by
  unfold partC
  have e : a + b - a = b := by omega
  rw [e, if_neg (by omega), if_pos (by omega)]
  omega
theorem partC_mono (W C : Nat → Nat) (n a b i : Nat) : partC W C n a b i ≤ partC W C n a (b + 1) i := by
  unfold partC
  by_cases h : a < i ∧ i - a < b ∧ i - a < n
  · rw [if_pos h, if_pos ⟨h.1, by omega, h.2.2⟩]; omega
  · rw [if_neg h]; omega
theorem sumC_le (W C : Nat → Nat) (n i : Nat) : ∀ (k m : Nat), k ≤ m → sumC W C n i k ≤ sumC W C n i m
  | k, 0, h => by have : k = 0 := by omega
                  subst this; exact Nat.le_refl _
  | k, m + 1, h => by
    by_cases e : k = m + 1
    · subst e; exact Nat.le_refl _
    · exact Nat.le_trans (sumC_le W C n i k m (by omega)) (Nat.le_add_right _ _)

end Go.EvNil

namespace Go.EvNil
open Go Go.Proofs Go.RowKit

def RetSame (s : ByteArray) (e : Ending) : Prop := ∃ t : ByteArray, Same s t ∧ e = .returned (.string t)

theorem byte0 {c : UInt8} (h : (((c.toNat : Nat) : Int) == 0) = true) : c = 0 := by
  have : c.toNat = 0 := by simpa using h
  exact UInt8.toNat_inj.1 (by simpa using this)

theorem bytes_get (s : ByteArray) (k : Nat) (h : k < s.size) : s.data.toList[k]? = some s[k] := by
  rw [List.getElem?_eq_getElem (by rw [Array.length_toList]; exact h)]
  rfl

theorem canon_same (s : ByteArray) (k : Nat) (hk : k ≤ s.size) (hz : ∀ j, j < k → s.data.toList[j]? = some 0) (he : ∀ h : k < s.size, s[k] ≠ 0) : Same s (s.extract k s.size) :=
  same_drop s _ k (Lib.extract_to_end s k) (by rw [Array.length_toList]; exact hk) hz fun h => he (by rw [Array.length_toList] at h; exact h)

set_option maxRecDepth 100000 in
set_option maxHeartbeats 2000000 in
theorem canon_any (s : ByteArray) (w : World) (hs : s.size ≤ maxLen) : Calls Tryz.prog 151 #[.string s] w fun e w' => RetSame s e ∧ w = w' := by
  unfold maxLen at hs
  go_enter Tryz.func151, Tryz.ntmps151
  go_wp2
  go_loop [3] (fun i => ∃ k : Nat, k ≤ s.size ∧ i = .int .i64 k ∧ Hid (∀ j, j < k → s.data.toList[j]? = some 0)) (fun i => s.size - (intOf i).toNat)
  case atStart => exact ⟨0, Nat.zero_le _, rfl, fun j hj => by omega⟩
  case round =>
    obtain ⟨k, hk, rfl, hz⟩ := hrel
    by_cases hlt : k < s.size
    · go_wp2
      · have hq : ((((s[k]'hlt).toNat : Nat) : Int) == 0) = true := by assumption
        go_round
        case rel => exact ⟨k + 1, by omega, by go_num, zeros_snoc hz.out (by rw [bytes_get s k hlt, byte0 hq])⟩
        case measure => simp [intOf]; omega
      · have hq : ((((s[k]'hlt).toNat : Nat) : Int) == 0) = false := by assumption
        go_ret
        exact ⟨⟨_, canon_same s k hk hz.out (fun h e => by rw [e] at hq; simp at hq), rfl⟩, rfl⟩
    · go_wp2
      go_ret
      exact ⟨⟨_, canon_same s k hk hz.out (fun h => absurd h hlt), rfl⟩, rfl⟩

theorem V_take_lt (l : List UInt8) (k : Nat) (h : k ≤ 6) : V (l.take k) < 281474976710656 := by
  have h1 := V_lt (l.take k)
  have h2 : (l.take k).length ≤ 6 := by rw [List.length_take]; omega
  have h3 : 256 ^ (l.take k).length ≤ 256 ^ 6 := Nat.pow_le_pow_right (by omega) h2
  have h4 : (256 : Nat) ^ 6 = 281474976710656 := by decide
  omega

theorem wrap2 (v c : Nat) (hv : v < 281474976710656) (hc : c < 256) : wrap64 (wrap64 ((v : Int) * 256) + (c : Int)) = ((v * 256 + c : Nat) : Int) := by
  rw [IntWalk.wrap64_in ((v : Int) * 256) ⟨by omega, by omega⟩, IntWalk.wrap64_in _ ⟨by omega, by omega⟩]
  omega

theorem V_take_succ (t : ByteArray) (k : Nat) (h : k < t.size) : V (t.data.toList.take (k + 1)) = V (t.data.toList.take k) * 256 + t[k].toNat := by
  rw [List.take_succ_eq_append_getElem (by rw [Array.length_toList]; exact h), V_snoc]
  rfl

/-- The number comes back. -/
def RetV (n : Nat) (e : Ending) : Prop := e = .returned (.tuple #[.int .i64 n, .bool true])

set_option maxRecDepth 100000 in
set_option maxHeartbeats 4000000 in
theorem int_small (s : ByteArray) (w : World) (hs : s.size ≤ maxLen) (hV : V s.data.toList < 256 ^ 7) : Calls Tryz.prog 153 #[.string s] w fun e w' => RetV (V s.data.toList) e ∧ w = w' := by
  have HV := Lib.hid hV
  clear hV
  go_enter Tryz.func153, Tryz.ntmps153
  go_wp2_with (go_at_call 151; refine (canon_any s _ hs).mono ?_; rintro e w' ⟨⟨t, T, rfl⟩, rfl⟩; have h7 : t.size ≤ 7 := T.2.2 7 HV.out; have d1 : decide ((8 : Int) < (t.size : Int)) = false := (by simp; omega); have d2 : ((t.size : Int) == 8) = false := (by simp; omega))
  go_loop [4, 5] (fun n i => ∃ k : Nat, k ≤ t.size ∧ i = .int .i64 k ∧ n = .int .i64 (V (t.data.toList.take k))) (fun _ i => t.size - (intOf i).toNat)
  case atStart => exact ⟨0, Nat.zero_le _, rfl, rfl⟩
  case round =>
    obtain ⟨k, hk, rfl, rfl⟩ := hrel
    by_cases hlt : k < t.size
    · have hb := V_take_lt t.data.toList k (by omega)
      have hn := Lib.hid (V_take_succ t k hlt)
      have hc := UInt8.toNat_lt t[k]
      generalize hv : V (t.data.toList.take k) = v at *
      clear hv
      go_wp2
      go_round
      case rel => exact ⟨k + 1, by omega, by go_num, by rw [hn.out]; go_num⟩
      case measure => simp [intOf]; omega
    · have hkt : k = t.size := by omega
      have hvt : V (t.data.toList.take k) = V s.data.toList := by rw [hkt, List.take_of_length_le (by rw [Array.length_toList]; exact Nat.le_refl _)]; exact T.1
      have Hvt := Lib.hid hvt
      clear hvt hkt
      go_wp2
      go_ret2
      exact ⟨by unfold RetV; rw [← Hvt.out]; rfl, rfl⟩

set_option maxRecDepth 100000 in
set_option maxHeartbeats 4000000 in
theorem small_yes (s : ByteArray) (n : Nat) (w : World) (hs : s.size ≤ maxLen) (hn : n ≤ 7) (hV : V s.data.toList < 256 ^ n) : Calls Tryz.prog 101 #[.string s, .int .i64 n] w fun e w' => RetV (V s.data.toList) e ∧ w = w' := by
  have H7 : Hid (V s.data.toList < 256 ^ 7) := Nat.lt_of_lt_of_le hV (Nat.pow_le_pow_right (by omega) hn)
  have HV := Lib.hid hV
  clear hV
  go_enter Tryz.func101, Tryz.ntmps101
  go_wp2_with (first
    | (go_at_call 151; refine (canon_any s _ hs).mono ?_; rintro e w' ⟨⟨t, T, rfl⟩, rfl⟩; have h7 : t.size ≤ n := T.2.2 n HV.out; have d1 : decide (n < t.size) = false := (by simp; omega))
    | (go_at_call 153; refine (int_small s _ hs H7.out).mono ?_; rintro e w' ⟨rfl, rfl⟩))
  go_ret2
  exact ⟨rfl, rfl⟩
end Go.EvNil

namespace Go.EvNil
open Go Go.Proofs Go.RowKit

theorem info5 : (Tryz.prog.info? 5).map (fun i => (i.zero, i.size, i.bytes)) = some (some (.int .u8 0), 1, 1) := by kernel_rfl

theorem newsV (w : World) (v : Value) : ∀ (j : Nat) (u : Value), [v][j]? = some u → (w.alloc (.cells #[v] 5)).cell? ((⟨w.heap.size, 0, none⟩ : Addr).add j) = some u := by
  intro j u hj
  cases j with
  | zero =>
    simp at hj
    subst hj
    exact cellOf (i := 0) (heapNew w _) rfl
  | succ j => simp at hj

theorem bl_succ (n j : Nat) : bl n (j + 1) = bl n j ++ [(((n / 2 ^ (56 - 8 * j)) % 256 : Nat) : Int)] := by
  simp [bl, List.range_succ]

theorem ownB_ge {base k : Nat} {v : Value} {w : World} {xs : List Value} {e : TypeId} (h : w.ownsRow base e 1 v k xs) : ∀ g, v.ownBlock = some g → base ≤ g := by
  intro g hg
  obtain ⟨h3, h4⟩ := h
  rcases h4 with ⟨h4, h5⟩ | ⟨g', cap, cur, e1, e2, _⟩
  · subst h4; simp [Value.ownBlock] at hg
  · subst e1; simp [Value.ownBlock] at hg; omega

theorem ownsRow_last {w : World} {base k : Nat} {v : Value} {xs : List Value} {a b : Int} (h : w.ownsRow base 5 1 v k (xs ++ [.int .u8 a])) (e : a = b) : w.ownsRow base 5 1 v k (xs ++ [.int .u8 b]) := e ▸ h

def RetNat (n : Nat) (e : Ending) : Prop := ∃ t : ByteArray, e = .returned (.string t) ∧ V t.data.toList = n ∧ t.size ≤ 8

set_option maxRecDepth 100000 in
set_option maxHeartbeats 4000000 in
theorem of_zero (w : World) : Calls Tryz.prog 99 #[.int .i64 0] w fun e w' => RetNat 0 e ∧ Below w.heap.size w w' := by
  have hcv := fun (w : World) (l c : Nat) => run_convert_bytes_nil (P := Tryz.prog) (w := w) 210 5 Tryz.underlying210 Tryz.underlying5 l c
  have hcv' := fun (w : World) (l c : Nat) => hcv w l c 117 Tryz.underlying117
  go_enter Tryz.func99, Tryz.ntmps99
  go_wp2
  refine wp_loop_rounds 1 ?_
  rw [rounds_succ]
  go_wp2_with (go_at_call 151; refine (canon_any _ _ (by simp [maxLen])).mono ?_; rintro e w' ⟨⟨t, T, rfl⟩, rfl⟩)
  go_ret
  exact ⟨⟨t, rfl, T.1.trans rfl, Nat.le_trans T.2.1 (by decide)⟩, Below.refl _ _⟩

set_option maxRecDepth 100000 in
set_option maxHeartbeats 4000000 in
theorem of_pos (n : Nat) (w : World) (h0 : 0 < n) (h1 : n < 36028797018963968) : Calls Tryz.prog 99 #[.int .i64 n] w fun e w' => RetNat n e ∧ Below w.heap.size w w' := by
  obtain ⟨i0, hi0, hz0, hz1, hz2⟩ := info_parts info5
  have hp : decide ((0 : Int) < (n : Int)) = true := by simp; omega
  go_enter Tryz.func99, Tryz.ntmps99
  go_wp2
  go_loopw [3, 4] (fun v i wr => ∃ j : Nat, j ≤ 8 ∧ i = .int .i64 (56 - 8 * (j : Int)) ∧ wr.ownsRow w.heap.size 5 1 v j ((bl n j).map (Value.int .u8)) ∧ Below w.heap.size w wr) (fun _ i _ => (intOf i + 8).toNat)
  case atStart => exact ⟨0, by omega, rfl, World.ownsRow_nil _ _ _ _, Below.refl _ _⟩
  case round =>
    obtain ⟨j, hj, rfl, hown, hbr⟩ := hrel
    by_cases hlt : j < 8
    · have hjj : j = 0 ∨ j = 1 ∨ j = 2 ∨ j = 3 ∨ j = 4 ∨ j = 5 ∨ j = 6 ∨ j = 7 := by omega
      have hq := bl_succ n j
      rcases hjj with rfl | rfl | rfl | rfl | rfl | rfl | rfl | rfl
      all_goals
        have Hq := Lib.hid hq
        clear hq
        go_wp2_with (at_builtin; refine wpList_append_own _ rfl _ _ 210 rfl w.heap.size 5 i0 (.int .u8 0) 1 1 Tryz.underlying210 hi0 hz0 hz1 hz2 rfl (by decide) _ _ _ rfl (hown.alloc _) ⟨wr.heap.size, 0, none⟩ 1 1 [_] rfl rfl (newsV _ _) (by simp [Value.oneCell']) (by unfold maxLen; omega) (by omega) (by have := hbr.size; simp; omega) ?_; intro v' w6 hown6 hgrow6 _)
        have HB6 : Below w.heap.size w w6 := (hbr.alloc hbr.size _).grown hgrow6 (by have := hbr.size; simp; omega) (ownB_ge hown)
        have HO6 := Lib.hid hown6
        clear hown6 hgrow6
        go_wp2
        first | (refine ⟨⟨1, by omega, by go_num, ?_, HB6⟩, by simp [intOf]⟩) | (refine ⟨⟨2, by omega, by go_num, ?_, HB6⟩, by simp [intOf]⟩) | (refine ⟨⟨3, by omega, by go_num, ?_, HB6⟩, by simp [intOf]⟩) | (refine ⟨⟨4, by omega, by go_num, ?_, HB6⟩, by simp [intOf]⟩) | (refine ⟨⟨5, by omega, by go_num, ?_, HB6⟩, by simp [intOf]⟩) | (refine ⟨⟨6, by omega, by go_num, ?_, HB6⟩, by simp [intOf]⟩) | (refine ⟨⟨7, by omega, by go_num, ?_, HB6⟩, by simp [intOf]⟩) | (refine ⟨⟨8, by omega, by go_num, ?_, HB6⟩, by simp [intOf]⟩)
        rw [Hq.out, List.map_append, List.map_singleton]
        exact ownsRow_last HO6.out (by first | omega | (simp; omega) | (simp))
    · obtain rfl : j = 8 := by omega
      obtain ⟨hl, hrow⟩ := hown
      rcases hrow with ⟨_, h8⟩ | ⟨g, cap, cur, rfl, hge, hcur, hle, hcap, hcs, htake⟩
      · omega
      · have hcell : ∀ i, i < 8 → wr.cell? ⟨g, 0 + i, none⟩ = some (.int .u8 ((bl n 8).getD i 0)) := fun i hi => by
          have h1 : (cur.toList.take (8 * 1))[i]? = ((bl n 8).map (Value.int .u8))[i]? := by rw [htake]
          rw [List.getElem?_take, if_pos (by omega), List.getElem?_map] at h1
          have h2 : i < (bl n 8).length := by simpa [bl] using hi
          rw [List.getElem?_eq_getElem h2] at h1
          simp only [World.cell?, hcur, Nat.zero_add]
          simp only [Array.getElem?_toList] at h1
          rw [h1, List.getD_eq_getElem?_getD, List.getElem?_eq_getElem h2]
          rfl
        have hcv := run_convert_bytes_arg (P := Tryz.prog) wr 210 5 Tryz.underlying210 Tryz.underlying5 g 0 8 cap (bl n 8) (by simp [bl]) hcell 117 Tryz.underlying117
        have hv := Lib.hid (V_bl n h1)
        have hsz : (strOfNums (bl n 8)).size = 8 := by rw [strOfNums_size]; simp [bl]
        have Hsz := Lib.hid hsz
        clear hsz hcell hcur hcs htake hl
        go_wp2_with (go_at_call 151; refine (canon_any _ _ (by rw [Hsz.out]; unfold maxLen; omega)).mono ?_; rintro e w' ⟨⟨t, T, rfl⟩, rfl⟩)
        go_ret
        exact ⟨⟨t, rfl, T.1.trans (by rw [strOfNums_data]; exact hv.out), by have := T.2.1; rw [Hsz.out] at this; exact this⟩, hbr⟩

theorem of_any (n : Nat) (w : World) (h1 : n < 36028797018963968) : Calls Tryz.prog 99 #[.int .i64 n] w fun e w' => RetNat n e ∧ Below w.heap.size w w' := by
  by_cases h0 : n = 0
  · subst h0; exact of_zero w
  · exact of_pos n w (by omega) h1

/-- A string that stands for a small number. -/
def IsN (s : ByteArray) (n : Nat) : Prop := V s.data.toList = n ∧ s.size ≤ 8

set_option maxRecDepth 100000 in
set_option maxHeartbeats 4000000 in
theorem add_small (a b : ByteArray) (m n : Nat) (w : World) (ha : IsN a m) (hb : IsN b n) (hm : m < 281474976710656) (hn : n < 281474976710656) : Calls Tryz.prog 53 #[.string a, .string b] w fun e w' => RetNat (m + n) e ∧ Below w.heap.size w w' := by
  have HA := Lib.hid ha
  have HB := Lib.hid hb
  clear ha hb
  have c1 : ∀ w, Calls Tryz.prog 101 #[.string a, .int .i64 7] w fun e w' => e = .returned (.tuple #[.int .i64 m, .bool true]) ∧ w = w' := fun w => by
    have := small_yes a 7 w (Nat.le_trans HA.out.2 (by decide)) (by omega) (by rw [HA.out.1]; exact Nat.lt_of_lt_of_le hm (by decide))
    rw [HA.out.1] at this
    exact this
  have c2 : ∀ w, Calls Tryz.prog 101 #[.string b, .int .i64 7] w fun e w' => e = .returned (.tuple #[.int .i64 n, .bool true]) ∧ w = w' := fun w => by
    have := small_yes b 7 w (Nat.le_trans HB.out.2 (by decide)) (by omega) (by rw [HB.out.1]; exact Nat.lt_of_lt_of_le hn (by decide))
    rw [HB.out.1] at this
    exact this
  have C1 := Lib.hid c1
  have C2 := Lib.hid c2
  have c3 : ∀ w, Calls Tryz.prog 99 #[.int .i64 ((m : Int) + (n : Int))] w fun e w' => RetNat (m + n) e ∧ Below w.heap.size w w' := fun w => by
    have := of_any (m + n) w (by omega)
    rw [Int.natCast_add] at this
    exact this
  have C3 := Lib.hid c3
  clear c1 c2 c3
  go_enter Tryz.func53, Tryz.ntmps53
  go_wp2_with (first
    | (go_at_call 101; ((with_reducible refine (C1.out _).mono ?_); rintro e w' ⟨rfl, rfl⟩))
    | (go_at_call 101; ((with_reducible refine (C2.out _).mono ?_); rintro e w' ⟨rfl, rfl⟩))
    | (go_at_call 99; ((with_reducible refine (C3.out _).mono ?_); rintro e w' ⟨⟨t, rfl, hv, hz⟩, hb⟩)))
  go_ret
  exact ⟨⟨t, rfl, hv, hz⟩, hb⟩

set_option maxRecDepth 100000 in
set_option maxHeartbeats 4000000 in
theorem mul_small (a b : ByteArray) (m n : Nat) (w : World) (ha : IsN a m) (hb : IsN b n) (hm : m < 16777216) (hn : n < 2147483648) : Calls Tryz.prog 152 #[.string a, .string b] w fun e w' => RetNat (m * n) e ∧ Below w.heap.size w w' := by
  have HA := Lib.hid ha
  have HB := Lib.hid hb
  clear ha hb
  have hmn : m * n < 36028797018963968 := by
    have h1 : m * n ≤ 16777215 * n := Nat.mul_le_mul_right _ (by omega)
    omega
  have c1 : ∀ w, Calls Tryz.prog 101 #[.string a, .int .i64 3] w fun e w' => e = .returned (.tuple #[.int .i64 m, .bool true]) ∧ w = w' := fun w => by
    have := small_yes a 3 w (Nat.le_trans HA.out.2 (by decide)) (by omega) (by rw [HA.out.1]; exact Nat.lt_of_lt_of_le hm (by decide))
    rw [HA.out.1] at this
    exact this
  have c2 : ∀ w, Calls Tryz.prog 101 #[.string b, .int .i64 4] w fun e w' => e = .returned (.tuple #[.int .i64 n, .bool true]) ∧ w = w' := fun w => by
    have := small_yes b 4 w (Nat.le_trans HB.out.2 (by decide)) (by omega) (by rw [HB.out.1]; exact Nat.lt_of_lt_of_le hn (by decide))
    rw [HB.out.1] at this
    exact this
  have c3 : ∀ w, Calls Tryz.prog 99 #[.int .i64 ((m : Int) * (n : Int))] w fun e w' => RetNat (m * n) e ∧ Below w.heap.size w w' := fun w => by
    have := of_any (m * n) w hmn
    rw [Int.natCast_mul] at this
    exact this
  have C1 := Lib.hid c1
  have C2 := Lib.hid c2
  have C3 := Lib.hid c3
  have hw : wrap64 ((m : Int) * (n : Int)) = (m : Int) * (n : Int) := IntWalk.wrap64_in _ ⟨by rw [← Int.natCast_mul]; omega, by rw [← Int.natCast_mul]; omega⟩
  clear c1 c2 c3
  go_enter Tryz.func152, Tryz.ntmps152
  go_wp2_with (first
    | (go_at_call 101; ((with_reducible refine (C1.out _).mono ?_); rintro e w' ⟨rfl, rfl⟩))
    | (go_at_call 101; ((with_reducible refine (C2.out _).mono ?_); rintro e w' ⟨rfl, rfl⟩))
    | (go_at_call 99; ((with_reducible refine (C3.out _).mono ?_); rintro e w' ⟨⟨t, rfl, hv, hz⟩, hb⟩)))
  go_ret
  exact ⟨⟨t, rfl, hv, hz⟩, hb⟩
end Go.EvNil

namespace Go.EvNil
open Go Go.Proofs Go.RowKit

/-- A block of ten numbers, at most U i at place i. -/
def Nats (w : World) (b n : Nat) (U : Nat → Nat) : Prop := b < w.heap.size ∧ ∃ cs : Array Value, w.heap[b]? = some (.cells cs 117 (0, 0)) ∧ cs.size = n ∧ ∀ i, i < n → ∃ (s : ByteArray) (m : Nat), cs[i]? = some (.string s) ∧ IsN s m ∧ m ≤ U i

theorem Nats.cell {w : World} {b n : Nat} {U : Nat → Nat} (h : Nats w b n U) {i : Nat} (hi : i < n) : ∃ (s : ByteArray) (m : Nat), w.cell? ⟨b, i, none⟩ = some (.string s) ∧ IsN s m ∧ m ≤ U i := by
  obtain ⟨_, cs, h1, h2, h3⟩ := h
  obtain ⟨s, m, e, h4⟩ := h3 i hi
  exact ⟨s, m, cellOf h1 e, h4⟩
theorem Nats.below {w w' : World} {b n B : Nat} {U : Nat → Nat} (h : Nats w b n U) (hB : b < B) (hb : Below B w w') : Nats w' b n U := by
  obtain ⟨h0, cs, h1, h2, h3⟩ := h
  exact ⟨Nat.lt_of_lt_of_le h0 hb.size, cs, by rw [hb.block b hB]; exact h1, h2, h3⟩
theorem Nats.free {w : World} {b n : Nat} {U : Nat → Nat} (h : Nats w b n U) (i : Nat) : w.frozen? ⟨b, i, none⟩ = false := by
  obtain ⟨_, cs, h1, _⟩ := h
  simp [World.frozen?, h1]
theorem Nats.mono {w : World} {b n : Nat} {U U' : Nat → Nat} (h : Nats w b n U) (hu : ∀ i, i < n → U i ≤ U' i) : Nats w b n U' := by
  obtain ⟨h0, cs, h1, h2, h3⟩ := h
  exact ⟨h0, cs, h1, h2, fun i hi => by obtain ⟨s, m, a, b, c⟩ := h3 i hi; exact ⟨s, m, a, b, Nat.le_trans c (hu i hi)⟩⟩
/-- A number is put in a place. -/
theorem Nats.set {w : World} {b n : Nat} {U : Nat → Nat} (h : Nats w b n U) {j m : Nat} {s : ByteArray} (hj : j < n) (hs : IsN s m) (hm : m ≤ U j) : Nats (w.setCell ⟨b, j, none⟩ (.string s)) b n U := by
  obtain ⟨h0, cs, h1, h2, h3⟩ := h
  refine ⟨by simpa using h0, cs.setIfInBounds j (.string s), Joins.block_setCell h1 _, by simpa using h2, fun i hi => ?_⟩
  by_cases e : i = j
  · subst e
    exact ⟨s, m, by simp [h2, hi], hs, hm⟩
  · obtain ⟨s', m', a, b⟩ := h3 i hi
    exact ⟨s', m', by rw [Array.getElem?_setIfInBounds_ne (Ne.symm e)]; exact a, b⟩

theorem Nats.zero (w : World) : Nats (w.alloc (.cells (Array.replicate 10 (.string ⟨#[]⟩)) 117)) w.heap.size 10 (fun _ => 0) :=
  ⟨by simp, Array.replicate 10 (.string ⟨#[]⟩), heapNew w _, by simp, fun i hi => ⟨⟨#[]⟩, 0, by simp [hi], ⟨rfl, by decide⟩, Nat.le_refl _⟩⟩

set_option maxRecDepth 100000 in
set_option maxHeartbeats 4000000 in
theorem joined_any (a b n ca cb : Nat) (W C : Nat → Nat) (w : World) (hn : n ≤ 10) (hA : Nats w a 10 W) (hB : Nats w b n C) (hW : ∀ i, i < 10 → W i < 16777216) (hC : ∀ i, i < n → C i < 2147483648) (hU : ∀ i, i < 10 → sumC W C n i 10 < 281474976710656) :
    Calls Tryz.prog 100 #[.slice (some ⟨a, 0, none⟩) 10 ca, .slice (some ⟨b, 0, none⟩) n cb] w fun e w' => e = .returned (.slice (some ⟨w.heap.size, 0, none⟩) 10 10) ∧ Nats w' w.heap.size 10 (fun i => sumC W C n i 10) ∧ Below w.heap.size w w' := by
  have hmk : ∀ w, (Instr.makeSlice 118 (.int .i64 10) (.int .i64 10)).run Tryz.prog w = .ok (.slice (some ⟨w.heap.size, 0, none⟩) 10 10) (w.alloc (.cells (Array.replicate 10 (.string ⟨#[]⟩)) 117)) := fun w => by kernel_rfl
  have la := hA.1
  have lb := hB.1
  go_enter Tryz.func100, Tryz.ntmps100
  go_wp2
  have N0 := Nats.zero w
  have B0 : Below w.heap.size w (w.alloc (.cells (Array.replicate 10 (.string ⟨#[]⟩)) 117)) := (Below.refl _ _).alloc (Nat.le_refl _) _
  generalize w.alloc (.cells (Array.replicate 10 (.string ⟨#[]⟩)) 117) = w1 at *
  clear hmk
  go_loopw [6] (fun i wr => ∃ k : Nat, k ≤ 10 ∧ i = .int .i64 k ∧ Nats wr w.heap.size 10 (fun i => sumC W C n i k) ∧ Below w.heap.size w wr) (fun i _ => 10 - (intOf i).toNat)
  case atStart => exact ⟨0, by omega, rfl, N0, B0⟩
  case round =>
    obtain ⟨wo, rfl⟩ : ∃ wo : World, wo = wr := ⟨_, rfl⟩
    obtain ⟨k, hk, rfl, hN, hbr⟩ := hrel
    by_cases hlt : k < 10
    · have hki : (k : Int) < 10 := by omega
      go_wp2
      go_loopw [7] (fun i wq => ∃ m : Nat, 1 ≤ m ∧ m ≤ 10 ∧ i = .int .i64 m ∧ Nats wq w.heap.size 10 (fun i => partC W C n k m i) ∧ Below w.heap.size w wq) (fun i _ => 10 - (intOf i).toNat)
      case atStart => exact ⟨1, by omega, by omega, rfl, hN.mono fun i _ => by rw [partC_start]; exact Nat.le_refl _, hbr⟩
      case round =>
        obtain ⟨m, hm1, hm, rfl, hQ, hbq⟩ := hrel
        by_cases hin : m < n ∧ k + m < 10
        · obtain ⟨q1, q2⟩ := hin
          have j1 : (m : Int) < (n : Int) := by omega
          have j2 : (k : Int) + (m : Int) < 10 := by omega
          obtain ⟨so, vo, co, no, lo⟩ := hQ.cell (i := k + m) (by omega)
          obtain ⟨sa, va, ca', na, la'⟩ := (hA.below la hbq).cell (i := k) hlt
          obtain ⟨sb, vb, cb', nb, lb'⟩ := (hB.below lb hbq).cell (i := m) q1
          have hsw : w.heap.size < wr.heap.size := hQ.1
          have law : a < wr.heap.size := Nat.lt_of_lt_of_le la hbq.size
          have lbw : b < wr.heap.size := Nat.lt_of_lt_of_le lb hbq.size
          have b1 : va < 16777216 := Nat.lt_of_le_of_lt la' (hW k hlt)
          have b2 : vb < 2147483648 := Nat.lt_of_le_of_lt lb' (hC m q1)
          have b3 : vo + va * vb < 281474976710656 := by
            have h1 : va * vb ≤ W k * C m := Nat.mul_le_mul la' lb'
            have h2 := partC_step W C n k m (by omega) q1
            have h3 := partC_le W C n k (m + 1) (k + m)
            have h4 := sumC_le W C n (k + m) (k + 1) 10 (by omega)
            have h5 := hU (k + m) q2
            omega
          have fo : wr.frozen? ⟨w.heap.size, k + m, none⟩ = false := hQ.free _
          have HQ := Lib.hid hQ
          clear hQ
          go_wp2
          have s1 : IntKind.i64.wrap ((k : Int) + (m : Int)) = (k : Int) + (m : Int) := IntWalk.i64_in _ ⟨by omega, by omega⟩
          have s2 : (0 : Int) ≤ (k : Int) + (m : Int) := by omega
          have s3 : ((k : Int) + (m : Int)).toNat = k + m := by omega
          have s4 : (0 : Int) ≤ (k : Int) := by omega
          have s5 : (0 : Int) ≤ (m : Int) := by omega
          go_region_law (first
              | (go_simp; go_at_call 152; refine (mul_small sa sb va vb _ na nb b1 b2).mono ?_; rintro e w5 ⟨⟨t1, rfl, hv1, hz1⟩, hb5⟩; have g1 : w5.cell? ⟨w.heap.size, k + m, none⟩ = some (.string so) := (by rw [hb5.cell (by simpa using hsw)]; exact co); have g2 : w5.frozen? ⟨w.heap.size, k + m, none⟩ = false := (by rw [hb5.frozen (by simpa using hsw)]; exact fo))
              | (go_simp; go_at_call 53; refine (add_small so t1 vo (va * vb) _ no ⟨hv1, hz1⟩ (by omega) (by omega)).mono ?_; rintro e w6 ⟨⟨t2, rfl, hv2, hz2⟩, hb6⟩; have g3 : w6.frozen? ⟨w.heap.size, k + m, none⟩ = false := (by rw [hb6.frozen (Nat.lt_of_lt_of_le hsw hb5.size)]; exact g2); have g4 : w6.cell? ⟨w.heap.size, k + m, none⟩ = some (.string so) := (by rw [hb6.cell (Nat.lt_of_lt_of_le hsw hb5.size)]; exact g1)))
          all_goals (
            have hQ : Nats wr w.heap.size 10 (fun i => partC W C n k m i) := HQ
            go_wp2
            have hQd : Nats wr.drew w.heap.size 10 (fun i => partC W C n k m i) := hQ.below hsw ((Below.refl wr.heap.size wr).drew)
            have hsd : w.heap.size < wr.drew.heap.size := hsw
            have B5 : Below w.heap.size wr.drew w5 := hb5.mono (Nat.le_of_lt hsd)
            have hs5 : w.heap.size < w5.heap.size := Nat.lt_of_lt_of_le hsd hb5.size
            have B6 : Below w.heap.size w5 w6 := hb6.mono (Nat.le_of_lt hs5)
            have h1 : va * vb ≤ W k * C m := Nat.mul_le_mul la' lb'
            have h2 := partC_step W C n k m (by omega) q1
            have hQ6 : Nats w6 w.heap.size 10 (fun i => partC W C n k (m + 1) i) := ((hQd.below hsd hb5).below hs5 hb6).mono fun i _ => partC_mono W C n k m i
            exact ⟨⟨m + 1, by omega, by omega, by go_num, hQ6.set q2 ⟨hv2, hz2⟩ (by omega), (((hbq.drew).trans B5).trans B6).setCell (Nat.le_refl _) _⟩, by simp [intOf]; omega⟩)
        · by_cases q1 : m < n
          · have j2 : ¬ ((k : Int) + (m : Int) < 10) := by omega
            go_wp2
            exact ⟨⟨k + 1, by omega, by go_num, hQ.mono fun i _ => partC_le W C n k m i, hbq⟩, by simp [intOf]; omega⟩
          · go_wp2
            exact ⟨⟨k + 1, by omega, by go_num, hQ.mono fun i _ => partC_le W C n k m i, hbq⟩, by simp [intOf]; omega⟩
    · obtain rfl : k = 10 := by omega
      go_wp2
      go_ret
      exact ⟨rfl, hN, hbr⟩
end Go.EvNil

namespace Go.EvNil
open Go Go.Proofs Go.RowKit
/-- Two empty lists of strings are equal. -/
theorem strings_nil (w : World) : Calls Tryz.prog 41 #[.slice none 0 0, .slice none 0 0] w fun e w' => e = .returned (.bool true) ∧ w' = w := by
  go_enter Tryz.func41, Tryz.ntmps41
  go_wp2
  go_loopw [5] (fun i wr => i = .int .i64 0 ∧ wr = w) (fun _ _ => 0)
  case atStart => exact ⟨rfl, rfl⟩
  case round =>
    obtain ⟨rfl, rfl⟩ := hrel
    go_wp2
    go_ret
    exact ⟨rfl, rfl⟩
/-- Two empty lists of rows are equal. -/
theorem sameRows_nil (w : World) : Calls Tryz.prog 42 #[.slice none 0 0, .slice none 0 0] w fun e w' => e = .returned (.bool true) ∧ w' = w := by
  go_enter Tryz.func42, Tryz.ntmps42
  go_wp2
  go_loopw [5] (fun i wr => i = .int .i64 0 ∧ wr = w) (fun _ _ => 0)
  case atStart => exact ⟨rfl, rfl⟩
  case round =>
    obtain ⟨rfl, rfl⟩ := hrel
    go_wp2
    go_ret
    exact ⟨rfl, rfl⟩
/-- The zero value equals itself. -/
theorem equal_zero (w : World) : Calls Tryz.prog 14 #[v0, v0] w fun e w' => e = .returned (.bool true) ∧ Below w.heap.size w w' := by
  go_enter Tryz.func14, Tryz.ntmps14
  go_wp2_with (first
    | (go_at_call 41; refine (strings_nil _).mono ?_; rintro e w5 ⟨rfl, rfl⟩)
    | (go_at_call 42; refine (sameRows_nil _).mono ?_; rintro e w6 ⟨rfl, rfl⟩))
  go_ret
  exact ⟨rfl, ((Below.refl _ _).alloc (Nat.le_refl _) _).alloc (by simp) _⟩
end Go.EvNil
