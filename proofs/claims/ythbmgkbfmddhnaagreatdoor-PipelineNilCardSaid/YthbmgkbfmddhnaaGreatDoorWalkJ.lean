/-
  PipelineNil returns true for every key and all lists of numbers, and leaves all that was there.
-/
import Derived.Test.YthbmgkbfmddhnaaGreatDoorWalkD
import Derived.Test.YthbmgkbfmddhnaaGreatDoorWalkI
set_option linter.all false
namespace Go.EvNil
open Go Go.Proofs Go.RowKit

def vz : Array Value := #[.int .i64 0, .string ⟨#[]⟩, .int .i64 0, .int .i64 0, .int .i64 0, .slice none 0 0, .slice none 0 0]
theorem Nums.below {w w' : World} {a : Option Addr} {n : Nat} (h : Nums w a n) (hz : ∀ q, a = some q → q.block < w.heap.size) (hb : Below w.heap.size w w') : Nums w' a n := by
  rcases h with h | ⟨b, o, rfl, hc⟩
  · exact .inl h
  · have hbl : b < w.heap.size := hz _ rfl
    exact .inr ⟨b, o, rfl, fun i hi => by obtain ⟨x, hx⟩ := hc i hi; exact ⟨x, by rw [hb.cell hbl]; exact hx⟩⟩
theorem Zp.below {w w' : World} {p : Value} (h : Zp w p) (hb : Below w.heap.size w w') : Zp w' p := by
  rcases h with h | ⟨B, h1, h2⟩
  · exact .inl h
  · have hl := cell_lt h2
    exact .inr ⟨B, h1, by rw [hb.cell hl]; exact h2⟩

set_option maxRecDepth 100000 in
set_option maxHeartbeats 8000000 in
theorem nil_any (w : World) (hT : Tens w) (key : Int) (la ta : Option Addr) (ln lc tn tc : Nat) (hl : Nums w la ln) (hlz : ∀ q, la = some q → q.block < w.heap.size) (hlm : ln ≤ maxLen) (ht : Nums w ta tn) (htz : ∀ q, ta = some q → q.block < w.heap.size) (htm : tn ≤ maxLen) :
    Calls Tryz.prog 3 #[.int .i64 key, .slice la ln lc, .slice ta tn tc] w fun e w' => e = .returned (.bool true) ∧ Below w.heap.size w w' := by
  have hT1 := hT.1
  go_enter Tryz.func3, Tryz.ntmps3
  go_upto_block 0 with (first
    | (go_at_call 4; refine (sanity_any _ hT).mono ?_; rintro e w1 ⟨rfl, hb1⟩)
    | (go_at_call 5; refine (made_any _ la ln lc (Nat.le_trans hT1 hb1.size) (hl.below hlz hb1) (fun q hq => Nat.lt_of_lt_of_le (hlz q hq) hb1.size) hlm).mono ?_; rintro e w2 ⟨⟨nm, ver, ca, cn, cc, sa, sn, sc, ra, rn, rc, st, rfl, hC⟩, hb2⟩))
  have z1 := sizeNew w2 (.cells #[.string nm, .int .i64 ver, .slice ca cn cc, .slice sa sn sc, .slice ra rn rc, .int .i64 st] 28)
  have z2 := sizeNew (w2.alloc (.cells #[.string nm, .int .i64 ver, .slice ca cn cc, .slice sa sn sc, .slice ra rn rc, .int .i64 st] 28)) (.cells #[.string ⟨#[]⟩, .int .i64 0, .slice none 0 0, .slice none 0 0, .slice none 0 0, .int .i64 0, .slice none 0 0, .slice none 0 0, .map none, .int .i64 0] 34)
  have hg : (((w2.alloc (.cells #[.string nm, .int .i64 ver, .slice ca cn cc, .slice sa sn sc, .slice ra rn rc, .int .i64 st] 28)).alloc (.cells #[.string ⟨#[]⟩, .int .i64 0, .slice none 0 0, .slice none 0 0, .slice none 0 0, .int .i64 0, .slice none 0 0, .slice none 0 0, .map none, .int .i64 0] 34)).alloc (.cells #[.pointer none, .pointer (some ⟨w2.heap.size + 1, 0, none⟩)] 30)).heap[w2.heap.size]? = some (.cells #[.string nm, .int .i64 ver, .slice ca cn cc, .slice sa sn sc, .slice ra rn rc, .int .i64 st] 28 (0, 0)) := by
    rw [heapOld _ _ (by omega), heapOld _ _ (by omega)]; exact heapNew _ _
  have hp : (((w2.alloc (.cells #[.string nm, .int .i64 ver, .slice ca cn cc, .slice sa sn sc, .slice ra rn rc, .int .i64 st] 28)).alloc (.cells #[.string ⟨#[]⟩, .int .i64 0, .slice none 0 0, .slice none 0 0, .slice none 0 0, .int .i64 0, .slice none 0 0, .slice none 0 0, .map none, .int .i64 0] 34)).alloc (.cells #[.pointer none, .pointer (some ⟨w2.heap.size + 1, 0, none⟩)] 30)).heap[w2.heap.size + 1]? = some (.cells #[.string ⟨#[]⟩, .int .i64 0, .slice none 0 0, .slice none 0 0, .slice none 0 0, .int .i64 0, .slice none 0 0, .slice none 0 0, .map none, .int .i64 0] 34 (0, 0)) := by
    rw [heapOld _ _ (by omega), ← z1]; exact heapNew _ _
  have ha : (((w2.alloc (.cells #[.string nm, .int .i64 ver, .slice ca cn cc, .slice sa sn sc, .slice ra rn rc, .int .i64 st] 28)).alloc (.cells #[.string ⟨#[]⟩, .int .i64 0, .slice none 0 0, .slice none 0 0, .slice none 0 0, .int .i64 0, .slice none 0 0, .slice none 0 0, .map none, .int .i64 0] 34)).alloc (.cells #[.pointer none, .pointer (some ⟨w2.heap.size + 1, 0, none⟩)] 30)).heap[w2.heap.size + 1 + 1]? = some (.cells #[.pointer none, .pointer (some ⟨w2.heap.size + 1, 0, none⟩)] 30 (0, 0)) := by
    rw [← z1, ← z2]; exact heapNew _ _
  have B3 : Below w2.heap.size w2 (((w2.alloc (.cells #[.string nm, .int .i64 ver, .slice ca cn cc, .slice sa sn sc, .slice ra rn rc, .int .i64 st] 28)).alloc (.cells #[.string ⟨#[]⟩, .int .i64 0, .slice none 0 0, .slice none 0 0, .slice none 0 0, .int .i64 0, .slice none 0 0, .slice none 0 0, .map none, .int .i64 0] 34)).alloc (.cells #[.pointer none, .pointer (some ⟨w2.heap.size + 1, 0, none⟩)] 30)) := (((Below.refl _ _).alloc (Nat.le_refl _) _).alloc (by simp) _).alloc (by simp; omega) _
  have hC3 := hC.below B3
  have hl3 := hl.below hlz (hb1.trans ((hb2.trans (B3.mono hb2.size)).mono hb1.size))
  have ht3 := ht.below htz (hb1.trans ((hb2.trans (B3.mono hb2.size)).mono hb1.size))
  have HB3 := Lib.hid (hb1.trans ((hb2.trans (B3.mono hb2.size)).mono hb1.size))
  have hsz3 := HB3.out.size
  have HLZ := Lib.hid (fun (W : World) (hW : w.heap.size ≤ W.heap.size) q hq => Nat.lt_of_lt_of_le (hlz q hq) hW)
  have HTZ := Lib.hid (fun (W : World) (hW : w.heap.size ≤ W.heap.size) q hq => Nat.lt_of_lt_of_le (htz q hq) hW)
  clear z1 z2 B3 hC hb1 hb2 hl ht hT hlz htz
  generalize (((w2.alloc (.cells #[.string nm, .int .i64 ver, .slice ca cn cc, .slice sa sn sc, .slice ra rn rc, .int .i64 st] 28)).alloc (.cells #[.string ⟨#[]⟩, .int .i64 0, .slice none 0 0, .slice none 0 0, .slice none 0 0, .int .i64 0, .slice none 0 0, .slice none 0 0, .map none, .int .i64 0] 34)).alloc (.cells #[.pointer none, .pointer (some ⟨w2.heap.size + 1, 0, none⟩)] 30)) = w3 at *
  generalize w2.heap.size = gb at *
  have HC := Lib.hid (fun W (hW : Below w3.heap.size w3 W) => hC3.below hW)
  have HL := Lib.hid (fun W (hW : Below w3.heap.size w3 W) => hl3.below (HLZ.out w3 hsz3) hW)
  have HN := Lib.hid (fun W (hW : Below w3.heap.size w3 W) => ht3.below (HTZ.out w3 hsz3) hW)
  clear hC3 hl3 ht3
  go_wp2_with fail
  go_loopw [24] (fun i wr => ∃ k : Nat, k ≤ 2 ∧ i = .int .i64 k ∧ Below w3.heap.size w3 wr) (fun i _ => 2 - (RowKit.intOf i).toNat)
  case atStart => exact ⟨0, by omega, rfl, Below.refl _ _⟩
  case round =>
    obtain ⟨k, hk, rfl, hbr⟩ := hrel
    by_cases hlt : k < 2
    · have j1 : (k : Int) < 2 := by omega
      have j2 : (0 : Int) ≤ (k : Int) := by omega
      have hgr : wr.heap[gb]? = some (.cells #[.string nm, .int .i64 ver, .slice ca cn cc, .slice sa sn sc, .slice ra rn rc, .int .i64 st] 28 (0, 0)) := by rw [hbr.block _ (heap_lt' hg)]; exact hg
      have har : wr.heap[gb + 1 + 1]? = some (.cells #[.pointer none, .pointer (some ⟨gb + 1, 0, none⟩)] 30 (0, 0)) := by rw [hbr.block _ (heap_lt' ha)]; exact ha
      obtain ⟨p, hcp, hzp⟩ : ∃ p, wr.cell? ⟨gb + 1 + 1, k, none⟩ = some p ∧ ∀ W, Below w3.heap.size w3 W → Zp W p := by
        have : k = 0 ∨ k = 1 := by omega
        rcases this with rfl | rfl
        · exact ⟨_, cellOf har rfl, fun W _ => .inl rfl⟩
        · exact ⟨_, cellOf har rfl, fun W hW => .inr ⟨gb + 1, rfl, cellOf (i := 8) (by rw [hW.block _ (heap_lt' hp)]; exact hp) rfl⟩⟩
      have HZ := Lib.hid hzp
      have g0 := cellOf (i := 0) hgr rfl
      have g1 := cellOf (i := 1) hgr rfl
      have g2 := cellOf (i := 2) hgr rfl
      have g3 := cellOf (i := 3) hgr rfl
      have g4 := cellOf (i := 4) hgr rfl
      have g5 := cellOf (i := 5) hgr rfl
      have hw3 := hbr.size
      clear hzp har
      go_wp2_with (first
        | (have gd := hv2; go_at_call 14; refine (equal_zero _).mono ?_; rintro e w12 ⟨rfl, hb12⟩)
        | (have gd := B9; go_at_call 14; refine (equal_zero _).mono ?_; rintro e w11 ⟨rfl, hb11⟩; have hv2 : w11.heap[w9.heap.size]? = some (.cells #[.int .i64 0, .string ⟨#[]⟩, .int .i64 0, .int .i64 0, .int .i64 0, .slice none 0 0, .slice none 0 0] 41 (0, 0)) := (by rw [hb11.block _ (by simp)]; exact heapNew _ _); have y0 := cellOf (i := 0) hv2 rfl; have y1 := cellOf (i := 1) hv2 rfl; have y2 := cellOf (i := 2) hv2 rfl; have y3 := cellOf (i := 3) hv2 rfl; have y4 := cellOf (i := 4) hv2 rfl; have y5 := cellOf (i := 5) hv2 rfl; have y6 := cellOf (i := 6) hv2 rfl)
        | (have gd := B9; go_at_call 13; refine (runs_zero _ _ (HZ.out _ B9)).mono ?_; rintro e w' ⟨rfl, rfl⟩)
        | (have gd := B9; go_at_call 12; refine (keys_zero _ _ (HZ.out _ B9)).mono ?_; rintro e w' ⟨rfl, rfl⟩)
        | (have gd := B9; go_at_call 11; refine (delete_zero _ _ _ (HZ.out _ B9)).mono ?_; rintro e w' ⟨rfl, rfl⟩)
        | (have gd := B8; go_at_call 10; refine (value_zero _ _ _ (HZ.out _ B8)).mono ?_; rintro e w9 ⟨rfl, hb9⟩; have B9a := B8.trans (hb9.mono B8.size); have B9 := B9a.alloc B9a.size (.cells #[.int .i64 0, .string ⟨#[]⟩, .int .i64 0, .int .i64 0, .int .i64 0, .slice none 0 0, .slice none 0 0] 41); have hv1 : w9.heap[w6.heap.size]? = some (.cells #[.int .i64 0, .string ⟨#[]⟩, .int .i64 0, .int .i64 0, .int .i64 0, .slice none 0 0, .slice none 0 0] 41 (0, 0)) := (by rw [hb9.block _ (Nat.lt_of_lt_of_le (heap_lt' hv7) hb8.size), hb8.block _ (heap_lt' hv7)]; exact hv7); have x0 := cellOf (i := 0) hv1 rfl; have x1 := cellOf (i := 1) hv1 rfl; have x2 := cellOf (i := 2) hv1 rfl; have x3 := cellOf (i := 3) hv1 rfl; have x4 := cellOf (i := 4) hv1 rfl; have x5 := cellOf (i := 5) hv1 rfl; have x6 := cellOf (i := 6) hv1 rfl; have hx9 := heap_lt' hv1)
        | (have gd := B7; go_at_call 8; refine (set_zero _ _ _ _ _ (HZ.out _ B7)).mono ?_; rintro e w8 ⟨rfl, hb8⟩; have B8 := B7.trans (hb8.mono B7.size))
        | (have gd := B6; go_at_call 9; refine (base_any _ ta tn tc (HN.out _ B6) htm).mono ?_; rintro e w7 ⟨⟨bb, s7, p7, m7, c7, q7, n7, d7, rfl, hbb, f0, f1, f2⟩, hb7⟩; have B7 := B6.trans (hb7.mono B6.size); have hv7 : w7.heap[w6.heap.size]? = some (.cells #[.int .i64 0, .string ⟨#[]⟩, .int .i64 0, .int .i64 0, .int .i64 0, .slice none 0 0, .slice none 0 0] 41 (0, 0)) := (by rw [hb7.block _ (by simp)]; exact heapNew _ _))
        | (have gd := B5; go_at_call 6; refine (put_zero _ _ _ _ _ _ (HZ.out _ B5)).mono ?_; rintro e w6 ⟨rfl, hb6⟩; have B6a := B5.trans (hb6.mono B5.size); have B6 := B6a.alloc B6a.size (.cells #[.int .i64 0, .string ⟨#[]⟩, .int .i64 0, .int .i64 0, .int .i64 0, .slice none 0 0, .slice none 0 0] 41))
        | (go_at_call 7; refine (row_any _ _ _ _ _ ca cn cc la ln lc _ (HC.out _ hbr) (HL.out _ hbr) (HLZ.out _ (by omega)) hlm).mono ?_; rintro e w5 ⟨⟨xa, xn, xc, rfl⟩, hb5⟩; have B5 := hbr.trans (hb5.mono hbr.size)))
      have B11 := B9.trans (hb11.mono B9.size)
      have B12 := B11.trans (hb12.mono B11.size)
      exact ⟨⟨k + 1, by omega, by go_num, B12⟩, by simp [RowKit.intOf]; omega⟩
    · have j1 : ¬ (k : Int) < 2 := by omega
      go_wp2
      go_ret
      exact ⟨rfl, HB3.out.trans (hbr.mono hsz3)⟩
end Go.EvNil
