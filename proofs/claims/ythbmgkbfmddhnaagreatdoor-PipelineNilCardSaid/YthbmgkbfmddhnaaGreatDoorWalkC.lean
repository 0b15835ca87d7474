/-
  The contract of Base, for every list of numbers.
-/
import Derived.Test.YthbmgkbfmddhnaaGreatDoorWalkB
import Derived.Deep.AppendLies
import Derived.Deep.DeepCutAuto
set_option linter.all false
namespace Go.EvNil
open Go Go.Proofs Go.RowKit
theorem info45 : (Tryz.prog.info? 45).map (fun i => (i.zero, i.size, i.bytes)) = some (some (.slice none 0 0), 1, 24) := by kernel_rfl

theorem ownsRow_below {w w' : World} {base : Nat} {e : TypeId} {size : Nat} {v : Value} {n : Nat} {xs : List Value} (h : w.ownsRow base e size v n xs) (hb : Below w.heap.size w w') : w'.ownsRow base e size v n xs := by
  obtain ⟨h3, h4⟩ := h
  refine ⟨h3, ?_⟩
  rcases h4 with h4 | ⟨g, cap, cur, e1, e2, e3, e4⟩
  · exact .inl h4
  · exact .inr ⟨g, cap, cur, e1, e2, by rw [hb.block g (Array.getElem?_eq_some_iff.1 e3).1]; exact e3, e4⟩
theorem ownsRow_set {w : World} {base : Nat} {e : TypeId} {size : Nat} {v : Value} {n : Nat} {xs : List Value} (h : w.ownsRow base e size v n xs) {p : Addr} (hp : p.block < base) (u : Value) : (w.setCell p u).ownsRow base e size v n xs := by
  obtain ⟨h3, h4⟩ := h
  refine ⟨h3, ?_⟩
  rcases h4 with h4 | ⟨g, cap, cur, e1, e2, e3, e4⟩
  · exact .inl h4
  · exact .inr ⟨g, cap, cur, e1, e2, by rw [Below.heap_setCell _ _ _ _ (by omega)]; exact e3, e4⟩
theorem row_ne {w : World} {base : Nat} {e t : TypeId} {size : Nat} {v : Value} {n : Nat} {xs : List Value} (h : w.ownsRow base e size v n xs) {b : Nat} {cs : Array Value} {fr : Nat × Nat} (hb : w.heap[b]? = some (.cells cs t fr)) (ht : t ≠ e) : some b ≠ v.ownBlock := by
  obtain ⟨h3, h4⟩ := h
  rcases h4 with ⟨h4, _⟩ | ⟨g, cap, cur, e1, e2, e3, e4⟩
  · subst h4; simp [Value.ownBlock]
  · subst e1
    simp only [Value.ownBlock, ne_eq, Option.some.injEq]
    intro e5
    subst e5
    rw [hb] at e3
    cases e3
    exact ht rfl

def codeCells : Array Value := #[.string ⟨#[65]⟩, .string ⟨#[66]⟩, .string ⟨#[67]⟩, .string ⟨#[97]⟩, .string ⟨#[88, 49]⟩, .string ⟨#[45]⟩]
theorem codes_at {w : World} {cb : Nat} (h : w.heap[cb]? = some (.cells codeCells 9 (0, 0))) (m : Nat) (hm : m < 6) : ∃ s, w.cell? ⟨cb, m, none⟩ = some (.string s) := by
  have : m = 0 ∨ m = 1 ∨ m = 2 ∨ m = 3 ∨ m = 4 ∨ m = 5 := by omega
  rcases this with rfl | rfl | rfl | rfl | rfl | rfl
  all_goals exact ⟨_, cellOf h rfl⟩

/-- The state of Base: the table so far, and the codes. -/
def BaseSt (w wr : World) (cb : Nat) (v : Value) (j : Nat) : Prop :=
  wr.heap[w.heap.size + 1]? = some (.cells #[.string ⟨#[112, 114, 105, 99, 101, 115]⟩, .slice (some ⟨w.heap.size, 0, none⟩) 3 3, v] 52 (0, 0)) ∧ wr.heap[cb]? = some (.cells codeCells 9 (0, 0)) ∧ (∃ xs, wr.ownsRow (w.heap.size + 2) 45 1 v j xs) ∧ Below w.heap.size w wr

theorem BaseSt.form {w wr : World} {cb : Nat} {v : Value} {j : Nat} (h : BaseSt w wr cb v j) : ∃ a c, v = .slice a j c := by
  obtain ⟨_, _, ⟨xs, h3, h4⟩, _⟩ := h
  rcases h4 with ⟨h4, h5⟩ | ⟨g', cap, cur, e1, e2, _⟩
  · subst h5; exact ⟨_, _, h4⟩
  · exact ⟨_, _, e1⟩

theorem heap_lt {w : World} {b : Nat} {o : Obj} (h : w.heap[b]? = some o) : b < w.heap.size := (Array.getElem?_eq_some_iff.1 h).1
theorem cell_lt {w : World} {b o : Nat} {v : Value} (h : w.cell? ⟨b, o, none⟩ = some v) : b < w.heap.size := by
  unfold World.cell? at h
  cases hb : w.heap[b]? with
  | none => simp [hb] at h
  | some x => exact heap_lt hb

/-- Ahead of the codes. -/
def BaseSt0 (w wr : World) (v : Value) (j : Nat) : Prop :=
  wr.heap[w.heap.size + 1]? = some (.cells #[.string ⟨#[112, 114, 105, 99, 101, 115]⟩, .slice (some ⟨w.heap.size, 0, none⟩) 3 3, v] 52 (0, 0)) ∧ (∃ xs, wr.ownsRow (w.heap.size + 2) 45 1 v j xs) ∧ Below w.heap.size w wr
theorem BaseSt0.codes {w wr : World} {v : Value} {j : Nat} (h : BaseSt0 w wr v j) : BaseSt w (wr.alloc (.cells codeCells 9)) wr.heap.size v j :=
  ⟨by rw [heapOld _ _ (heap_lt h.1)]; exact h.1, heapNew _ _, h.2.1.imp fun xs hx => hx.alloc _, h.2.2.alloc h.2.2.size _⟩

/-- After a row more. -/
theorem BaseSt.next {w wr w6 w7 : World} {cb : Nat} {v : Value} {j : Nat} (h : BaseSt w wr cb v j) (hb6 : Below wr.heap.size wr w6) {o : Obj} {g cap m : Nat} {ys : List Value} (hown : w7.ownsRow (w.heap.size + 2) 45 1 (.slice (some ⟨g, 0, none⟩) m cap) m ys) (hgrow : (w6.alloc o).grownBy w7 v.ownBlock) :
    BaseSt w (w7.setCell ⟨w.heap.size + 1, 2, none⟩ (.slice (some ⟨g, 0, none⟩) m cap)) cb (.slice (some ⟨g, 0, none⟩) m cap) m := by
  obtain ⟨h1, h2, ⟨xs, h3⟩, h4⟩ := h
  have l1 := heap_lt h1
  have l2 := heap_lt h2
  have z6 := hb6.size
  have B6 : Below wr.heap.size wr (w6.alloc o) := hb6.alloc z6 _
  have n1 := row_ne h3 h1 (by decide)
  have n2 := row_ne h3 h2 (by decide)
  have k1 : w7.heap[w.heap.size + 1]? = some (.cells #[.string ⟨#[112, 114, 105, 99, 101, 115]⟩, .slice (some ⟨w.heap.size, 0, none⟩) 3 3, v] 52 (0, 0)) := by
    rw [hgrow.block _ (by simp; omega) n1, B6.block _ l1]; exact h1
  have k2 : w7.heap[cb]? = some (.cells codeCells 9 (0, 0)) := by
    rw [hgrow.block _ (by simp; omega) n2, B6.block _ l2]; exact h2
  have hne : cb ≠ w.heap.size + 1 := fun e => by subst e; rw [h1] at h2; cases h2
  refine ⟨?_, ?_, ⟨ys, ownsRow_set hown (by simp) _⟩, ?_⟩
  · exact Joins.block_setCell k1 _
  · rw [Below.heap_setCell _ _ _ _ hne]; exact k2
  · have z4 := h4.size
    have := ((h4.trans (hb6.mono z4)).alloc (by omega) o).grown hgrow (by simp; omega) (fun g hg => by
      obtain ⟨_, h5⟩ := h3
      rcases h5 with ⟨h5, _⟩ | ⟨g', cap, cur, e1, e2, _⟩
      · subst h5; simp [Value.ownBlock] at hg
      · subst e1; simp [Value.ownBlock] at hg; omega)
    exact this.setCell (by simp) _

theorem base_start {w w1 w5 w6 w7 : World} {o : Obj} {g cap m : Nat} {ys : List Value} (hT : w1.heap[w.heap.size + 1]? = some (.cells #[.string ⟨#[112, 114, 105, 99, 101, 115]⟩, .slice (some ⟨w.heap.size, 0, none⟩) 3 3, .slice none 0 0] 52 (0, 0))) (B1 : Below w.heap.size w w1) (hb5 : Below w1.heap.size w1 w5) (hb6 : Below w5.heap.size w5 w6)
    (hown : w7.ownsRow (w.heap.size + 2) 45 1 (.slice (some ⟨g, 0, none⟩) m cap) m ys) (hgrow : (w6.alloc o).grownBy w7 (Value.slice none 0 0).ownBlock) :
    BaseSt0 w (w7.setCell ⟨w.heap.size + 1, 2, none⟩ (.slice (some ⟨g, 0, none⟩) m cap)) (.slice (some ⟨g, 0, none⟩) m cap) m := by
  have l1 := heap_lt hT
  have z5 := hb5.size
  have z6 := hb6.size
  have B6 : Below w1.heap.size w1 (w6.alloc o) := (hb5.trans (hb6.mono z5)).alloc (by omega) _
  have k1 : w7.heap[w.heap.size + 1]? = some (.cells #[.string ⟨#[112, 114, 105, 99, 101, 115]⟩, .slice (some ⟨w.heap.size, 0, none⟩) 3 3, .slice none 0 0] 52 (0, 0)) := by
    rw [hgrow.block _ (by simp; omega) (by simp [Value.ownBlock]), B6.block _ l1]; exact hT
  have l7 := heap_lt k1
  have z1 := B1.size
  have BB : Below w.heap.size w w7 := (B1.trans (B6.mono z1)).grown hgrow (by simp; omega) (fun g hg => by simp [Value.ownBlock] at hg)
  exact ⟨Joins.block_setCell k1 _, ⟨ys, ownsRow_set hown (by simp) _⟩, BB.setCell (by simp) _⟩

/-- What Base returns. -/
def RetBase (e : Ending) (w' : World) : Prop := ∃ b s p m c q n d, e = .returned (.slice (some ⟨b, 0, none⟩) 1 1) ∧ b < w'.heap.size ∧ w'.cell? ⟨b, 0, none⟩ = some (.string s) ∧ w'.cell? ⟨b, 1, none⟩ = some (.slice p m c) ∧ w'.cell? ⟨b, 2, none⟩ = some (.slice q n d)

set_option maxRecDepth 100000 in
set_option maxHeartbeats 8000000 in
theorem base_any (w : World) (a : Option Addr) (n c : Nat) (hl : Nums w a n) (hm : n ≤ maxLen) : Calls Tryz.prog 9 #[.slice a n c] w fun e w' => RetBase e w' ∧ Below w.heap.size w w' := by
  obtain ⟨i0, hi0, hz0, hz1, hz2⟩ := info_parts info45
  have hm' := hm
  unfold maxLen at hm'
  go_enter Tryz.func9, Tryz.ntmps9
  go_upto_region 2 with fail
  have hT : ((w.alloc (.cells #[.string ⟨#[99, 111, 100, 101]⟩, .string ⟨#[112, 114, 105, 99, 101]⟩, .string ⟨#[110, 97, 109, 101]⟩] 9)).alloc (.cells #[.string ⟨#[112, 114, 105, 99, 101, 115]⟩, .slice (some ⟨w.heap.size, 0, none⟩) 3 3, .slice none 0 0] 52)).heap[w.heap.size + 1]? = some (.cells #[.string ⟨#[112, 114, 105, 99, 101, 115]⟩, .slice (some ⟨w.heap.size, 0, none⟩) 3 3, .slice none 0 0] 52 (0, 0)) := by rw [show w.heap.size + 1 = (w.alloc (.cells #[.string ⟨#[99, 111, 100, 101]⟩, .string ⟨#[112, 114, 105, 99, 101]⟩, .string ⟨#[110, 97, 109, 101]⟩] 9)).heap.size by simp]; exact heapNew _ _
  have B1 : Below w.heap.size w ((w.alloc (.cells #[.string ⟨#[99, 111, 100, 101]⟩, .string ⟨#[112, 114, 105, 99, 101]⟩, .string ⟨#[110, 97, 109, 101]⟩] 9)).alloc (.cells #[.string ⟨#[112, 114, 105, 99, 101, 115]⟩, .slice (some ⟨w.heap.size, 0, none⟩) 3 3, .slice none 0 0] 52)) := ((Below.refl _ _).alloc (Nat.le_refl _) _).alloc (by simp) _
  have hs1 : w.heap.size + 1 < ((w.alloc (.cells #[.string ⟨#[99, 111, 100, 101]⟩, .string ⟨#[112, 114, 105, 99, 101]⟩, .string ⟨#[110, 97, 109, 101]⟩] 9)).alloc (.cells #[.string ⟨#[112, 114, 105, 99, 101, 115]⟩, .slice (some ⟨w.heap.size, 0, none⟩) 3 3, .slice none 0 0] 52)).heap.size := by simp
  generalize ((w.alloc (.cells #[.string ⟨#[99, 111, 100, 101]⟩, .string ⟨#[112, 114, 105, 99, 101]⟩, .string ⟨#[110, 97, 109, 101]⟩] 9)).alloc (.cells #[.string ⟨#[112, 114, 105, 99, 101, 115]⟩, .slice (some ⟨w.heap.size, 0, none⟩) 3 3, .slice none 0 0] 52)) = w1 at *
  have k2 : w1.cell? ⟨w.heap.size + 1, 2, none⟩ = some (.slice none 0 0) := cellOf (i := 2) hT rfl
  have f2 : w1.frozen? ⟨w.heap.size + 1, 2, none⟩ = false := by simp [World.frozen?, hT]
  have HT := Lib.hid hT
  have HB1 := Lib.hid B1
  clear hT B1
  go_cut [] (fun wx => ∃ v, BaseSt0 w wx v 2)
  case first =>
    go_region_law (first
      | (have hg6 := hs6; refine step_append_lies _ (by rfl) _ _ _ (by rfl) (w.heap.size + 2) 45 i0 _ 1 24 Tryz.underlying39 hi0 hz0 hz1 hz2 rfl (by decide) (.slice none 0 0) 0 [] (by rfl) (World.ownsRow_nil _ _ _ _) ⟨w6.heap.size, 0, none⟩ 2 2 [.slice p1 n1 c1, .slice p2 n2 c2] (by rfl) (by rfl) (World.news_of_block (cs := #[.slice p1 n1 c1, .slice p2 n2 c2]) (t := 45) (fr := (0, 0)) (heap_alloc_new w6 _)) (by simp [Value.oneCell']) (by decide) (by decide) (by decide) (by simp; omega) (w6.heap.size + 1) (by simp) ?_; intro g cap w7 hown hgrow hat hlt; have k7 : w7.cell? ⟨w.heap.size + 1, 2, none⟩ = some (.slice none 0 0) := (by rw [hgrow.cell_far _ (by simp; omega) (by simp [Value.ownBlock]), ((Below.refl w6.heap.size w6).alloc (Nat.le_refl _) _).cell hs6]; exact k6); have f7 : w7.frozen? ⟨w.heap.size + 1, 2, none⟩ = false := (by rw [hgrow.frozen_far _ (by simp; omega) (by simp [Value.ownBlock]), ((Below.refl w6.heap.size w6).alloc (Nat.le_refl _) _).frozen hs6]; exact f6))
      | (have hg5 := hs5; go_simp; go_at_call 37; refine (priced_any _ _ _ w5 (by decide) (by decide)).mono ?_; rintro e w6 ⟨⟨p2, n2, c2, rfl⟩, hb6⟩; have k6 : w6.cell? ⟨w.heap.size + 1, 2, none⟩ = some (.slice none 0 0) := (by rw [hb6.cell (by simpa using hs5)]; exact k5); have f6 : w6.frozen? ⟨w.heap.size + 1, 2, none⟩ = false := (by rw [hb6.frozen (by simpa using hs5)]; exact f5); have hs6 : w.heap.size + 1 < w6.heap.size := Nat.lt_of_lt_of_le hs5 hb6.size)
      | (go_simp; go_at_call 37; refine (priced_any _ _ _ _ (by decide) (by decide)).mono ?_; rintro e w5 ⟨⟨p1, n1, c1, rfl⟩, hb5⟩; have k5 : w5.cell? ⟨w.heap.size + 1, 2, none⟩ = some (.slice none 0 0) := (by rw [hb5.cell (by simpa using hs1)]; exact k2); have f5 : w5.frozen? ⟨w.heap.size + 1, 2, none⟩ = false := (by rw [hb5.frozen (by simpa using hs1)]; exact f2); have hs5 : w.heap.size + 1 < w5.heap.size := Nat.lt_of_lt_of_le hs1 hb5.size))
    all_goals (
      go_wp2_with fail
      go_meet
      exact ⟨_, base_start (w1 := w1.drew) HT.out HB1.out.drew hb5 hb6 hown hgrow⟩)
  case rest =>
    obtain ⟨v0, hst0⟩ := hcut
    clear k2 f2 HT HB1 hs1
    have hst1 := hst0.codes
    have hcb : wc.heap.size < (wc.alloc (.cells codeCells 9)).heap.size := by simp
    unfold codeCells at hst1 hcb
    clear hst0
    go_wp2
    generalize wc.heap.size = cb at hst1 hcb ⊢
    generalize (wc.alloc _) = wz at hst1 hcb ⊢
    go_loopw [5] (fun i wr => ∃ k j : Nat, ∃ v, k ≤ 8 ∧ k % 2 = 0 ∧ j ≤ 2 + k ∧ i = .int .i64 k ∧ BaseSt w wr cb v j) (fun i _ => 8 - (intOf i).toNat)
    case atStart => exact ⟨0, 2, _, by omega, by omega, by omega, rfl, hst1⟩
    case round =>
      obtain ⟨k, j, v, hk, hk2, hj, rfl, hst⟩ := hrel
      by_cases hin : k + 1 < n ∧ k < 8
      · obtain ⟨q1, q2⟩ := hin
        have j1 : (k : Int) + 1 < (n : Int) := by omega
        have j2 : (k : Int) < 8 := by omega
        rcases hl with hl | ⟨lb, lo, rfl, hcell⟩
        · omega
        obtain ⟨x, hx⟩ := hcell k (by omega)
        obtain ⟨y, hy⟩ := hcell (k + 1) (by omega)
        have lbl := cell_lt hx
        obtain ⟨va, vc, rfl⟩ := hst.form
        have cx : wr.cell? ⟨lb, lo + k, none⟩ = some (.int .i64 x) := by rw [hst.2.2.2.cell lbl]; exact hx
        have cy : wr.cell? ⟨lb, lo + (k + 1), none⟩ = some (.int .i64 y) := by rw [hst.2.2.2.cell lbl]; exact hy
        have k2 : wr.cell? ⟨w.heap.size + 1, 2, none⟩ = some (.slice va j vc) := cellOf (i := 2) hst.1 rfl
        have f2 : wr.frozen? ⟨w.heap.size + 1, 2, none⟩ = false := by simp [World.frozen?, hst.1]
        have hs1 : w.heap.size + 1 < wr.heap.size := heap_lt hst.1
        have HC := Lib.hid (codes_at hst.2.1)
        have HS := Lib.hid hst
        have lbw : lb < wr.heap.size := by omega
        obtain ⟨xs, hown0⟩ := hst.2.2.1
        have hne0 := row_ne hown0 hst.1 (by decide)
        have HO := Lib.hid hown0
        have HN := Lib.hid hne0
        have hzw := hst.2.2.2.size
        clear hst hcell hown0 hne0 hx hy
        go_wp2
        have s1 : IntKind.i64.wrap ((k : Int) + 1) = (k : Int) + 1 := IntWalk.i64_in _ ⟨by omega, by omega⟩
        have s2 : (0 : Int) ≤ (k : Int) + 1 := by omega
        have s3 : ((k : Int) + 1).toNat = k + 1 := by omega
        have s4 : (0 : Int) ≤ (k : Int) := by omega
        have s5 : (k : Int) < (n : Int) := by omega
        go_region_law (first
          | (have hg6 := hs6; refine step_append_lies _ (by rfl) _ _ _ (by rfl) (w.heap.size + 2) 45 i0 _ 1 24 Tryz.underlying39 hi0 hz0 hz1 hz2 rfl (by decide) (.slice va j vc) j xs (by rfl) ((ownsRow_below (w := wr.drew) HO.out hb6).alloc _) ⟨w6.heap.size, 0, none⟩ 1 1 [.slice p1 n1 c1] (by rfl) (by rfl) (World.news_of_block (cs := #[.slice p1 n1 c1]) (t := 45) (fr := (0, 0)) (heap_alloc_new w6 _)) (by simp [Value.oneCell']) (by decide) (by unfold maxLen; omega) (by omega) (by simp; omega) (w6.heap.size + 1) (by simp) ?_; intro g cap w7 hown hgrow hat hlt; have k7 : w7.cell? ⟨w.heap.size + 1, 2, none⟩ = some (.slice va j vc) := (by rw [hgrow.cell_far _ (by simp; omega) HN.out, ((Below.refl w6.heap.size w6).alloc (Nat.le_refl _) _).cell hs6]; exact k6); have f7 : w7.frozen? ⟨w.heap.size + 1, 2, none⟩ = false := (by rw [hgrow.frozen_far _ (by simp; omega) HN.out, ((Below.refl w6.heap.size w6).alloc (Nat.le_refl _) _).frozen hs6]; exact f6))
          | (have hgm2 := hm2; go_simp; go_at_call 37; refine (priced_any _ _ _ _ (by omega) (by omega)).mono ?_; rintro e w6 ⟨⟨p1, n1, c1, rfl⟩, hb6⟩; have k6 : w6.cell? ⟨w.heap.size + 1, 2, none⟩ = some (.slice va j vc) := (by rw [hb6.cell (by simpa using hs1)]; exact k2); have f6 : w6.frozen? ⟨w.heap.size + 1, 2, none⟩ = false := (by rw [hb6.frozen (by simpa using hs1)]; exact f2); have hs6 : w.heap.size + 1 < w6.heap.size := Nat.lt_of_lt_of_le hs1 hb6.size)
          | (have hgm1 := hm1; go_simp; go_at_call 38; refine (mod_any _ _ _ (by omega) (by omega)).mono ?_; rintro e w' ⟨⟨r2, hm2, hm2', rfl⟩, rfl⟩)
          | (go_simp; go_at_call 38; refine (mod_any _ _ _ (by omega) (by omega)).mono ?_; rintro e w' ⟨⟨r1, hm1, hm1', rfl⟩, rfl⟩; obtain ⟨m1, rfl⟩ : ∃ m : Nat, r1 = (m : Int) := ⟨r1.toNat, by omega⟩; obtain ⟨sc, hsc⟩ := HC.out m1 (by omega)))
        all_goals (
          have hst : BaseSt w wr.drew cb (.slice va j vc) j := ⟨HS.out.1, HS.out.2.1, HS.out.2.2.1, HS.out.2.2.2.drew⟩
          clear cx cy k2 f2 k6 f6 k7 f7 HC HO HN hsc
          go_wp2
          exact ⟨⟨k + 2, j + 1, _, by omega, by omega, by omega, by go_num, hst.next hb6 hown hgrow⟩, by simp [intOf]; omega⟩)
      · by_cases q1 : k + 1 < n
        · have j2 : ¬ ((k : Int) < 8) := by omega
          have j1 : (k : Int) + 1 < (n : Int) := by omega
          obtain ⟨va, vc, rfl⟩ := hst.form
          have hT := hst.1
          have c0 := cellOf (i := 0) hT rfl
          have c1 := cellOf (i := 1) hT rfl
          have c2 := cellOf (i := 2) hT rfl
          have HB := Lib.hid hst.2.2.2
          clear hst hT
          go_wp2
          go_ret
          exact ⟨⟨_, _, _, _, _, _, _, _, rfl, by simp, cellOf (i := 0) (heapNew _ _) rfl, cellOf (i := 1) (heapNew _ _) rfl, cellOf (i := 2) (heapNew _ _) rfl⟩, HB.out.alloc HB.out.size _⟩
        · have j1 : ¬ ((k : Int) + 1 < (n : Int)) := by omega
          obtain ⟨va, vc, rfl⟩ := hst.form
          have hT := hst.1
          have c0 := cellOf (i := 0) hT rfl
          have c1 := cellOf (i := 1) hT rfl
          have c2 := cellOf (i := 2) hT rfl
          have HB := Lib.hid hst.2.2.2
          clear hst hT
          go_wp2
          go_ret
          exact ⟨⟨_, _, _, _, _, _, _, _, rfl, by simp, cellOf (i := 0) (heapNew _ _) rfl, cellOf (i := 1) (heapNew _ _) rfl, cellOf (i := 2) (heapNew _ _) rfl⟩, HB.out.alloc HB.out.size _⟩
end Go.EvNil
