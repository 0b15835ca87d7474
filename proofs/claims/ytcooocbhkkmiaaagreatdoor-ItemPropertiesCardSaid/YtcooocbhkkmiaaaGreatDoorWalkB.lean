/-
  Contracts of functions that the law comes to, walked: second part.
-/
import Derived.Test.YtcooocbhkkmiaaaGreatDoorWalkA
import Derived.Deep.AppendLies
set_option linter.all false
namespace Go.EvProp
open Go Go.Proofs Go.RowKit

theorem Dg.take {w : World} {a : Option Addr} {c : Nat} {l : List Nat} (h : Dg w (.slice a l.length c) l) (k : Nat) (hk : k ≤ l.length) (ha : ∃ g, a = some ⟨g, 0, none⟩) : Dg w (.slice a k c) (l.take k) := by
  obtain ⟨g0, rfl⟩ := ha
  obtain ⟨h3, h4⟩ := h
  have hl : (l.take k).length = k := by rw [List.length_take]; omega
  refine ⟨by simp [dv], .inr ?_⟩
  rcases h4 with ⟨h4, _⟩ | ⟨g, cap, cur, e1, e2, e3, e4, e5, e6, e7⟩
  · cases h4
  · simp only [Value.slice.injEq, Option.some.injEq, Addr.mk.injEq] at e1
    obtain ⟨⟨rfl, _⟩, _, rfl⟩ := e1
    refine ⟨g0, c, cur, by rw [hl], e2, e3, by omega, e5, e6, ?_⟩
    rw [hl]
    have : dv (l.take k) = (dv l).take k := by simp [dv]
    rw [this, ← e7, List.take_take]
    congr 1
    omega

theorem D_zero_last (l : List Nat) (k : Nat) (h : k < l.length) (hz : l[k] = 0) : D (l.take k) = D (l.take (k + 1)) := by
  rw [D_take_succ l k h, hz]; omega

/-- The same digits but for zeros at the end come back. -/
def RetT (w : World) (l : List Nat) (e : Ending) : Prop := ∃ v' l', e = .returned v' ∧ Dg w v' l' ∧ D l' = D l ∧ Small l' ∧ l'.length ≤ l.length

set_option maxRecDepth 100000 in
set_option maxHeartbeats 4000000 in
theorem trim_any (v : Value) (l : List Nat) (w : World) (h : Dg w v l) (hsm : Small l) : Calls Tryz.prog 113 #[v] w fun e w' => RetT w l e ∧ w = w' := by
  obtain ⟨a, cap, rfl, hcap, hle, hpos, hcell⟩ := h.open
  unfold maxLen at hcap
  go_enter Tryz.func113, Tryz.ntmps113
  go_wp2
  go_loop [0] (fun v => ∃ k : Nat, k ≤ l.length ∧ v = .slice a k cap ∧ Hid (D (l.take k) = D l)) (fun v => match v with | .slice _ k _ => k | _ => 0)
  case atStart => exact ⟨l.length, Nat.le_refl _, rfl, by rw [List.take_of_length_le (Nat.le_refl _)]; exact rfl⟩
  case round =>
    obtain ⟨k, hk, rfl, hD⟩ := hrel
    by_cases hk0 : 0 < k
    · obtain ⟨g, rfl, hg⟩ := hpos (by omega)
      have hc := hcell g rfl (k - 1) (by omega)
      have i1 : (0 : Int) ≤ (k : Int) - 1 := by omega
      have i2 : ((k : Int) - 1) < k := by omega
      have i3 : ((k : Int) - 1).toNat = k - 1 := by omega
      have i4 : (k : Int) ≤ cap := by omega
      by_cases hz : l[k - 1]'(by omega) = 0
      · have hzz := D_zero_last l (k - 1) (by omega) hz
        have e : k - 1 + 1 = k := by omega
        rw [e, hD.out] at hzz
        have Hz := Lib.hid hzz
        rw [hz] at hc
        clear hzz hz hcell hpos
        go_wp2
        go_round
        case rel => exact ⟨k - 1, by omega, by go_num, Hz⟩
        case measure => simp; omega
      · have hq : (((l[k - 1]'(by omega) : Nat) : Int) == 0) = false := by rw [beq_eq_false_iff_ne]; omega
        have hT := Lib.hid (h.take k hk ⟨g, rfl⟩)
        clear hcell hpos h
        go_wp2
        go_ret
        exact ⟨⟨_, _, rfl, hT, hD, hsm.take _, by rw [List.length_take]; omega⟩, rfl⟩
    · obtain rfl : k = 0 := by omega
      have hT : Hid (Dg w (.slice a 0 cap) (l.take 0)) := by
        rcases Nat.eq_zero_or_pos l.length with e | e
        · have e2 := List.eq_nil_of_length_eq_zero e
          subst e2
          exact h
        · obtain ⟨g, e3, _⟩ := hpos e
          exact h.take 0 hk ⟨g, e3⟩
      clear hcell hpos h
      go_wp2
      go_ret
      exact ⟨⟨_, _, rfl, hT, hD, hsm.take _, by rw [List.length_take]; omega⟩, rfl⟩

def b3 (d : Nat) : List Int := [((d / 65536 % 256 : Nat) : Int), ((d / 256 % 256 : Nat) : Int), ((d % 256 : Nat) : Int)]
def bs : List Nat → List Int
  | [] => []
  | d :: l => bs l ++ b3 d
theorem bs_Bs (l : List Nat) : (bs l).map (fun x => UInt8.ofNat x.toNat) = Bs l := by
  induction l with
  | nil => rfl
  | cons d l ih => simp only [bs, Bs, List.map_append, ih]; rfl
theorem bs_len (l : List Nat) : (bs l).length = 3 * l.length := by
  induction l with
  | nil => rfl
  | cons d l ih => simp [bs, b3, ih]; omega
theorem bs_drop (l : List Nat) (k : Nat) (h : k < l.length) : bs (l.drop k) = bs (l.drop (k + 1)) ++ b3 l[k] := by
  rw [List.drop_eq_getElem_cons h]
  rfl

theorem news3 (w : World) (t : TypeId) (x y z : Value) : ∀ (j : Nat) (u : Value), [x, y, z][j]? = some u → (w.alloc (.cells #[x, y, z] t)).cell? ((⟨w.heap.size, 0, none⟩ : Addr).add j) = some u := by
  intro j u hj
  rcases j with _ | _ | _ | j
  · simp at hj; subst hj; exact cellOf (i := 0) (heapNew w _) rfl
  · simp at hj; subst hj; exact cellOf (i := 1) (heapNew w _) rfl
  · simp at hj; subst hj; exact cellOf (i := 2) (heapNew w _) rfl
  · simp at hj

theorem u8wrap (n : Nat) : IntKind.u8.wrap (n : Int) = ((n % 256 : Nat) : Int) := by first | rfl | (simp [IntKind.wrap]; done) | (simp [IntKind.wrap]; omega)

theorem ownsRow_last3 {w : World} {base k : Nat} {v : Value} {xs : List Value} {a b c a' b' c' : Int} (h : w.ownsRow base 5 1 v k (xs ++ [.int .u8 a, .int .u8 b, .int .u8 c])) (e : a = a') (e2 : b = b') (e3 : c = c') : w.ownsRow base 5 1 v k (xs ++ [.int .u8 a', .int .u8 b', .int .u8 c']) := e ▸ e2 ▸ e3 ▸ h

set_option maxRecDepth 100000 in
set_option maxHeartbeats 4000000 in
theorem number_any (v : Value) (l : List Nat) (w : World) (h : Dg w v l) (hsm : Small l) (h8 : l.length ≤ 8) : Calls Tryz.prog 118 #[v] w fun e w' => RetB (D l) e ∧ Below w.heap.size w w' := by
  obtain ⟨i0, hi0, hz0, hz1, hz2⟩ := info_parts infoU8
  obtain ⟨a, cap, rfl, hcap, hle, hpos, hcell⟩ := h.open
  unfold maxLen at hcap
  have hcv := fun (w : World) (l c : Nat) => run_convert_bytes_nil (P := Tryz.prog) (w := w) 87 5 Tryz.underlying87 Tryz.underlying5 l c
  have hcv' := fun (w : World) (l c : Nat) => hcv w l c 93 Tryz.underlying93
  go_enter Tryz.func118, Tryz.ntmps118
  go_wp2
  go_loopw [3, 4] (fun v i wr => ∃ j : Nat, j ≤ l.length ∧ i = .int .i64 ((j : Int) - 1) ∧ wr.ownsRow w.heap.size 5 1 v (3 * (l.length - j)) ((bs (l.drop j)).map (Value.int .u8)) ∧ Below w.heap.size w wr) (fun _ i _ => (intOf i + 1).toNat)
  case atStart => exact ⟨l.length, Nat.le_refl _, rfl, by rw [List.drop_of_length_le (Nat.le_refl _), Nat.sub_self]; exact World.ownsRow_nil _ _ _ _, Below.refl _ _⟩
  case round =>
    obtain ⟨j, hj, rfl, hown, hbr⟩ := hrel
    by_cases hlt : 0 < j
    · obtain ⟨m, rfl⟩ : ∃ m, j = m + 1 := ⟨j - 1, by omega⟩
      obtain ⟨g, rfl, hg⟩ := hpos (by omega)
      have hc0 := hcell g rfl m (by omega)
      have hc : wr.cell? ⟨g, m, none⟩ = some (.int .i64 ((l[m]'(by omega) : Nat) : Int)) := by rw [hbr.cell hg]; exact hc0
      have hd := hsm _ (List.getElem_mem (l := l) (n := m) (by omega))
      have Hq := Lib.hid (bs_drop l m (by omega))
      generalize hdd : l[m]'(by omega) = d at *
      clear hdd hc0
      have i1 : (0 : Int) ≤ ((m + 1 : Nat) : Int) - 1 := by omega
      have i2 : ((m + 1 : Nat) : Int) - 1 < l.length := by omega
      have i3 : (((m + 1 : Nat) : Int) - 1).toNat = m := by omega
      have i4 : ((m + 1 : Nat) : Int) - 1 = (m : Int) := by omega
      rw [i4]
      have i5 : (0 : Int) ≤ (m : Int) := by omega
      have i6 : (m : Int) < (l.length : Int) := by omega
      go_wp2
      go_region_law (first
        | (refine step_append_lies _ (by rfl) _ _ _ (by rfl) w.heap.size 5 i0 _ 1 1 Tryz.underlying87 hi0 hz0 hz1 hz2 rfl (by decide) _ (3 * (l.length - (m + 1))) _ (by rfl) (World.ownsRow.alloc (World.ownsRow.drew hown) _) ⟨wr.heap.size, 0, none⟩ 3 3 [_, _, _] (by rfl) rfl (news3 _ _ _ _ _) (by simp [Value.oneCell']) (by decide) (by unfold maxLen; omega) (by omega) (by have := hbr.size; simp; omega) (wr.heap.size + 1) (by simp) ?_; intro g2 cap2 w7 hown7 hgrow7 hat hlt7))
      all_goals
        have HB7 : Below w.heap.size w w7 := (hbr.drew.alloc hbr.size _).grown hgrow7 (by have := hbr.size; simp; omega) (ownB_ge hown)
        have e7 : 3 * (l.length - (m + 1)) + 3 = 3 * (l.length - m) := by omega
        have HO7 : Hid (w7.ownsRow w.heap.size 5 1 (.slice (some ⟨g2, 0, none⟩) (3 * (l.length - m)) cap2) (3 * (l.length - m)) ((bs (l.drop m)).map (Value.int .u8))) := by
          rw [Hq.out, List.map_append]
          rw [e7] at hown7
          exact ownsRow_last3 hown7 (u8wrap (d / 65536)) (u8wrap (d / 256)) (u8wrap d)
        rw [e7]
        clear hown7 hgrow7 hcv hcv' hcell hpos hat hc hown e7
        go_wp2
        exact ⟨⟨m, by omega, by go_num, HO7, HB7⟩, by simp [intOf]⟩
    · obtain rfl : j = 0 := by omega
      rw [List.drop_zero, Nat.sub_zero] at hown
      obtain ⟨hl, hrow⟩ := hown
      rcases hrow with ⟨rfl, h0⟩ | ⟨g, cap', cur, rfl, hge, hcur, hle', hcap', hcs, htake⟩
      · have hl0 := List.eq_nil_of_length_eq_zero (show l.length = 0 by omega)
        subst hl0
        go_wp2_with (go_at_call 110; refine (canon_any _ _ (by simp [maxLen])).mono ?_; rintro e w' ⟨⟨t, rfl, T⟩, rfl⟩)
        go_ret
        exact ⟨⟨t, rfl, T⟩, hbr⟩
      · have hcell2 := own_conv (bs l) (bs_len l) hcur htake
        have hcv2 := run_convert_bytes_arg (P := Tryz.prog) wr 87 5 Tryz.underlying87 Tryz.underlying5 g 0 (3 * l.length) cap' (bs l) (bs_len l) hcell2 93 Tryz.underlying93
        have hv : V (strOfNums (bs l)).data.toList = D l := by rw [strOfNums_data, bs_Bs]; exact V_Bs hsm
        have Hv := Lib.hid hv
        have hsz : (strOfNums (bs l)).size = 3 * l.length := by rw [strOfNums_size, bs_len]
        have Hsz := Lib.hid hsz
        clear hsz hcell2 hcur hcs htake hl hcv hcv' hcell hpos hv
        go_wp2_with (go_at_call 110; refine (canon_any _ _ (by rw [Hsz.out]; unfold maxLen; omega)).mono ?_; rintro e w' ⟨⟨t, rfl, T⟩, rfl⟩)
        go_ret
        rw [Hv.out] at T
        exact ⟨⟨t, rfl, T⟩, hbr⟩
end Go.EvProp

namespace Go.EvProp
open Go Go.Proofs Go.RowKit

/-- Digit k, 0 behind the end. -/
def dg (l : List Nat) (k : Nat) : Nat := l.getD k 0
theorem dg_lt {l : List Nat} (h : Small l) (k : Nat) : dg l k < 16777216 := by
  unfold dg
  rw [List.getD_eq_getElem?_getD]
  rcases Nat.lt_or_ge k l.length with hk | hk
  · rw [List.getElem?_eq_getElem hk]; exact h _ (List.getElem_mem hk)
  · rw [List.getElem?_eq_none hk]; decide
theorem dg_get {l : List Nat} {k : Nat} (h : k < l.length) : dg l k = l[k] := by
  unfold dg
  rw [List.getD_eq_getElem?_getD, List.getElem?_eq_getElem h]
  rfl
theorem dg_out {l : List Nat} {k : Nat} (h : ¬ k < l.length) : dg l k = 0 := by
  unfold dg
  rw [List.getD_eq_getElem?_getD, List.getElem?_eq_none (by omega)]
  rfl
theorem D_take_dg (l : List Nat) (k : Nat) : D (l.take (k + 1)) = D (l.take k) + 16777216 ^ k * dg l k := by
  rcases Nat.lt_or_ge k l.length with hk | hk
  · rw [D_take_succ l k hk, dg_get hk]
  · rw [List.take_of_length_le (by omega), List.take_of_length_le hk, dg_out (by omega)]
    omega

theorem D_cut (l : List Nat) (n : Nat) (h : D l < 16777216 ^ n) : D (l.take n) = D l := by
  rcases Nat.lt_or_ge n l.length with hn | hn
  · have e := D_append (l.take n) (l.drop n)
    rw [List.take_append_drop, List.length_take, Nat.min_eq_left (Nat.le_of_lt hn)] at e
    rcases Nat.eq_zero_or_pos (D (l.drop n)) with h0 | h0
    · rw [e, h0]; omega
    · have : 16777216 ^ n ≤ 16777216 ^ n * D (l.drop n) := Nat.le_mul_of_pos_right _ h0
      omega
  · rw [List.take_of_length_le hn]

theorem minus_end {a b l : List Nat} {x : Nat} (sa : Small a) (hsm : Small l) (hlen : l.length = a.length) (hle : D b ≤ D a) (hx : x ≤ 1) (hD : D l + D (b.take a.length) = D (a.take a.length) + 16777216 ^ a.length * x) : D l = D a - D b := by
  have h1 := D_lt sa
  have h2 := D_lt hsm
  rw [hlen] at h2
  rw [D_cut b _ (Nat.lt_of_le_of_lt hle h1), List.take_of_length_le (Nat.le_refl _)] at hD
  rcases (show x = 0 ∨ x = 1 by omega) with rfl | rfl <;> omega

/-- Digits of a difference come back. -/
def RetM (N : Nat) (m : Nat) (e : Ending) (w' : World) : Prop := ∃ v l, e = .returned v ∧ Dg w' v l ∧ D l = N ∧ Small l ∧ l.length ≤ m

set_option maxRecDepth 100000 in
set_option maxHeartbeats 4000000 in
theorem minus_any (u v : Value) (a b : List Nat) (w : World) (hu : Dg w u a) (hv : Dg w v b) (sa : Small a) (sb : Small b) (h8 : a.length ≤ 8) (h8b : b.length ≤ 8) (hle : D b ≤ D a) : Calls Tryz.prog 116 #[u, v] w fun e w' => RetM (D a - D b) a.length e w' ∧ Below w.heap.size w w' := by
  obtain ⟨i0, hi0, hz0, hz1, hz2⟩ := info_parts infoInt
  obtain ⟨aa, ca, rfl, hca, hla, hpa, hcella⟩ := hu.open
  obtain ⟨ab, cb, rfl, hcb, hlb, hpb, hcellb⟩ := hv.open
  unfold maxLen at hca hcb
  clear hu hv
  go_enter Tryz.func116, Tryz.ntmps116
  go_wp2
  go_loopw [5, 6, 7] (fun o c i wr => ∃ (k x : Nat) (l : List Nat), k ≤ a.length ∧ x ≤ 1 ∧ i = .int .i64 k ∧ c = .int .i64 x ∧ l.length = k ∧ Small l ∧ D l + D (b.take k) = D (a.take k) + 16777216 ^ k * x ∧ wr.ownsRow w.heap.size 3 1 o k (dv l) ∧ Below w.heap.size w wr) (fun _ _ i _ => a.length - (intOf i).toNat)
  case atStart => exact ⟨0, 0, [], by omega, by omega, rfl, rfl, rfl, Small.nil, by simp [D], by simpa [dv] using World.ownsRow_nil w w.heap.size 3 1, Below.refl _ _⟩
  case round =>
    obtain ⟨k, x, l, hk, hx, rfl, rfl, hlen, hsm, hD, hown, hbr⟩ := hrel
    by_cases hlt : k < a.length
    · obtain ⟨ga, rfl, hga⟩ := hpa (by omega)
      have hc : wr.cell? ⟨ga, k, none⟩ = some (.int .i64 ((a[k]'hlt : Nat) : Int)) := by rw [hbr.cell hga]; exact hcella ga rfl k hlt
      have i5 : (0 : Int) ≤ (k : Int) := by omega
      have i6 : (k : Int) < (a.length : Int) := by omega
      have hD1 := D_take_dg a k
      have hD2 := D_take_dg b k
      have da := dg_lt sa k
      have db := dg_lt sb k
      rw [dg_get hlt] at hD1 da
      have e16 : 16777216 ^ (k + 1) = 16777216 ^ k * 16777216 := Nat.pow_succ ..
      have key : ∀ d x' : Nat, d + dg b k + x = a[k] + 16777216 * x' → D (l ++ [d]) + D (b.take (k + 1)) = D (a.take (k + 1)) + 16777216 ^ (k + 1) * x' := fun d x' h => by
        rw [D_snoc, hlen, hD1, hD2, e16]
        have h1 : 16777216 ^ k * (d + dg b k + x) = 16777216 ^ k * (a[k] + 16777216 * x') := by rw [h]
        simp only [Nat.mul_add] at h1
        have h2 : 16777216 ^ k * (16777216 * x') = 16777216 ^ k * 16777216 * x' := by rw [Nat.mul_assoc]
        omega
      have Key := Lib.hid key
      have HDD := Lib.hid hD
      clear hD1 hD2 key e16 hD
      generalize hy : a[k]'hlt = y at *
      by_cases hb : k < b.length
      · obtain ⟨gb, rfl, hgb⟩ := hpb (by omega)
        have hcb2 : wr.cell? ⟨gb, k, none⟩ = some (.int .i64 ((b[k]'hb : Nat) : Int)) := by rw [hbr.cell hgb]; exact hcellb gb rfl k hb
        rw [dg_get hb] at Key db
        generalize hz : b[k]'hb = z at *
        have i7 : (k : Int) < (b.length : Int) := by omega
        clear hy hz hcella hcellb hpa hpb
        by_cases hneg : y < z + x
        · have n1 : (y : Int) - (x : Int) - (z : Int) < 0 := by omega
          obtain ⟨d, hd⟩ : ∃ d : Nat, d + z + x = y + 16777216 := ⟨y + 16777216 - z - x, by omega⟩
          have n2 : (y : Int) - (x : Int) - (z : Int) + 16777216 = (d : Int) := by omega
          go_wp2_with (at_builtin; refine wpList_append_own _ rfl _ _ 22 rfl w.heap.size 3 i0 (.int .i64 0) 1 8 Tryz.underlying22 hi0 hz0 hz1 hz2 rfl (by decide) _ _ _ rfl (hown.alloc _) ⟨wr.heap.size, 0, none⟩ 1 1 [_] rfl rfl (newsV _ _ _) (by simp [Value.oneCell']) (by unfold maxLen; omega) (by omega) (by have := hbr.size; simp; omega) ?_; intro v' w6 hown6 hgrow6 _; have HB6 : Below w.heap.size w w6 := ((hbr.alloc hbr.size _).grown hgrow6 (by have := hbr.size; simp; omega) (ownB_ge hown)); have HO6 := Lib.hid hown6; clear hown6 hgrow6)
          exact ⟨⟨k + 1, 1, l ++ [d], by omega, by omega, by go_num, rfl, by simp [hlen], hsm.snoc (by omega), Key.out d 1 (by omega), by rw [dv_snoc]; exact HO6.out, HB6⟩, by simp [intOf]; omega⟩
        · have n1 : ¬ ((y : Int) - (x : Int) - (z : Int) < 0) := by omega
          obtain ⟨d, hd⟩ : ∃ d : Nat, d + z + x = y := ⟨y - z - x, by omega⟩
          have n2 : (y : Int) - (x : Int) - (z : Int) = (d : Int) := by omega
          go_wp2_with (at_builtin; refine wpList_append_own _ rfl _ _ 22 rfl w.heap.size 3 i0 (.int .i64 0) 1 8 Tryz.underlying22 hi0 hz0 hz1 hz2 rfl (by decide) _ _ _ rfl (hown.alloc _) ⟨wr.heap.size, 0, none⟩ 1 1 [_] rfl rfl (newsV _ _ _) (by simp [Value.oneCell']) (by unfold maxLen; omega) (by omega) (by have := hbr.size; simp; omega) ?_; intro v' w6 hown6 hgrow6 _; have HB6 : Below w.heap.size w w6 := ((hbr.alloc hbr.size _).grown hgrow6 (by have := hbr.size; simp; omega) (ownB_ge hown)); have HO6 := Lib.hid hown6; clear hown6 hgrow6)
          exact ⟨⟨k + 1, 0, l ++ [d], by omega, by omega, by go_num, rfl, by simp [hlen], hsm.snoc (by omega), Key.out d 0 (by omega), by rw [dv_snoc]; exact HO6.out, HB6⟩, by simp [intOf]; omega⟩
      · rw [dg_out hb] at Key db
        have i7 : ¬ (k : Int) < (b.length : Int) := by omega
        clear hy hcella hcellb hpa hpb
        by_cases hneg : y < x
        · have n1 : (y : Int) - (x : Int) < 0 := by omega
          obtain ⟨d, hd⟩ : ∃ d : Nat, d + x = y + 16777216 := ⟨y + 16777216 - x, by omega⟩
          have n2 : (y : Int) - (x : Int) + 16777216 = (d : Int) := by omega
          go_wp2_with (at_builtin; refine wpList_append_own _ rfl _ _ 22 rfl w.heap.size 3 i0 (.int .i64 0) 1 8 Tryz.underlying22 hi0 hz0 hz1 hz2 rfl (by decide) _ _ _ rfl (hown.alloc _) ⟨wr.heap.size, 0, none⟩ 1 1 [_] rfl rfl (newsV _ _ _) (by simp [Value.oneCell']) (by unfold maxLen; omega) (by omega) (by have := hbr.size; simp; omega) ?_; intro v' w6 hown6 hgrow6 _; have HB6 : Below w.heap.size w w6 := ((hbr.alloc hbr.size _).grown hgrow6 (by have := hbr.size; simp; omega) (ownB_ge hown)); have HO6 := Lib.hid hown6; clear hown6 hgrow6)
          exact ⟨⟨k + 1, 1, l ++ [d], by omega, by omega, by go_num, rfl, by simp [hlen], hsm.snoc (by omega), Key.out d 1 (by omega), by rw [dv_snoc]; exact HO6.out, HB6⟩, by simp [intOf]; omega⟩
        · have n1 : ¬ ((y : Int) - (x : Int) < 0) := by omega
          obtain ⟨d, hd⟩ : ∃ d : Nat, d + x = y := ⟨y - x, by omega⟩
          have n2 : (y : Int) - (x : Int) = (d : Int) := by omega
          go_wp2_with (at_builtin; refine wpList_append_own _ rfl _ _ 22 rfl w.heap.size 3 i0 (.int .i64 0) 1 8 Tryz.underlying22 hi0 hz0 hz1 hz2 rfl (by decide) _ _ _ rfl (hown.alloc _) ⟨wr.heap.size, 0, none⟩ 1 1 [_] rfl rfl (newsV _ _ _) (by simp [Value.oneCell']) (by unfold maxLen; omega) (by omega) (by have := hbr.size; simp; omega) ?_; intro v' w6 hown6 hgrow6 _; have HB6 : Below w.heap.size w w6 := ((hbr.alloc hbr.size _).grown hgrow6 (by have := hbr.size; simp; omega) (ownB_ge hown)); have HO6 := Lib.hid hown6; clear hown6 hgrow6)
          exact ⟨⟨k + 1, 0, l ++ [d], by omega, by omega, by go_num, rfl, by simp [hlen], hsm.snoc (by omega), Key.out d 0 (by omega), by rw [dv_snoc]; exact HO6.out, HB6⟩, by simp [intOf]; omega⟩
    · obtain rfl : k = a.length := by omega
      have hE := Lib.hid (minus_end sa hsm hlen hle hx hD)
      have hG : Hid (Dg wr u5 l) := Dg.of (base := w.heap.size) (by rw [hlen]; exact hown)
      clear hD hcella hcellb hpa hpb hown
      go_wp2_with (go_at_call 113; refine (trim_any _ l _ hG.out hsm).mono ?_; rintro e w' ⟨⟨v', l', rfl, h1, h2, h3, h4⟩, rfl⟩)
      go_ret
      exact ⟨⟨v', l', rfl, h1, h2.trans hE.out, h3, by omega⟩, hbr⟩
end Go.EvProp

namespace Go.EvProp
open Go Go.Proofs Go.RowKit

theorem bytesLess_V : ∀ (a b : List UInt8), a.length = b.length → Op.bytesLess a b = decide (V a < V b)
  | [], [], _ => by simp [Op.bytesLess, V]
  | x :: a, y :: b, h => by
    have hl : a.length = b.length := by simpa using h
    have ih := bytesLess_V a b hl
    have h1 := V_lt a
    have h2 := V_lt b
    rw [← hl] at h2
    simp only [Op.bytesLess, ih]
    rw [V_cons, V_cons, ← hl]
    generalize 256 ^ a.length = p at *
    rcases Nat.lt_trichotomy x.toNat y.toNat with h3 | h3 | h3
    · have e1 : x < y := h3
      have : (x.toNat + 1) * p ≤ y.toNat * p := Nat.mul_le_mul_right _ h3
      rw [Nat.add_mul] at this
      have hq : x.toNat * p + V a < y.toNat * p + V b := by omega
      simp [e1, hq]
    · have e1 : x = y := UInt8.toNat_inj.1 h3
      subst e1
      have e2 : ¬ x < x := fun h => Nat.lt_irrefl _ h
      simp [e2]
    · have e1 : ¬ x < y := fun h => Nat.lt_asymm h3 h
      have e2 : ¬ x = y := fun h => by rw [h] at h3; exact Nat.lt_irrefl _ h3
      have : (y.toNat + 1) * p ≤ x.toNat * p := Nat.mul_le_mul_right _ h3
      rw [Nat.add_mul] at this
      have hq : ¬ x.toNat * p + V a < y.toNat * p + V b := by omega
      simp [e1, e2, hq]
theorem V_inj : ∀ (a b : List UInt8), a.length = b.length → V a = V b → a = b
  | [], [], _, _ => rfl
  | x :: a, y :: b, h, hv => by
    have hl : a.length = b.length := by simpa using h
    have h1 := V_lt a
    have h2 := V_lt b
    rw [V_cons, V_cons, ← hl] at hv
    rw [← hl] at h2
    generalize 256 ^ a.length = p at *
    have hxy : x.toNat = y.toNat := by
      rcases Nat.lt_trichotomy x.toNat y.toNat with h3 | h3 | h3
      · have : (x.toNat + 1) * p ≤ y.toNat * p := Nat.mul_le_mul_right _ h3
        rw [Nat.add_mul] at this
        omega
      · exact h3
      · have : (y.toNat + 1) * p ≤ x.toNat * p := Nat.mul_le_mul_right _ h3
        rw [Nat.add_mul] at this
        omega
    rw [hxy] at hv
    have := V_inj a b hl (by omega)
    rw [UInt8.toNat_inj.1 hxy, this]

theorem IsB.lt_of_size {s t : ByteArray} {m n : Nat} (hs : IsB s m) (ht : IsB t n) (h : s.size < t.size) : m < n := by
  rcases Nat.lt_or_ge m n with h1 | h1
  · exact h1
  · have := ht.2 s.size (Nat.lt_of_le_of_lt h1 hs.lt)
    omega

theorem IsB.less {s t : ByteArray} {m n : Nat} (hs : IsB s m) (ht : IsB t n) (h : ((s.size : Int) != (t.size : Int)) = false) : Op.bytesLess s.toList t.toList = decide (m < n) := by
  have hz : s.size = t.size := by simp at h; omega
  rw [ByteArray.toList_eq, ByteArray.toList_eq, bytesLess_V _ _ (by rw [Array.length_toList, Array.length_toList]; exact hz), hs.1, ht.1]
theorem IsB.same {s t : ByteArray} {m n : Nat} (hs : IsB s m) (ht : IsB t n) (h : ((s.size : Int) != (t.size : Int)) = false) : (!s.toList == t.toList) = decide (m ≠ n) := by
  have hz : s.size = t.size := by simp at h; omega
  rw [ByteArray.toList_eq, ByteArray.toList_eq]
  by_cases e : m = n
  · have : s.data.toList = t.data.toList := V_inj _ _ (by rw [Array.length_toList, Array.length_toList]; exact hz) (by rw [hs.1, ht.1, e])
    rw [this]; simp [e]
  · have : ¬ s.data.toList = t.data.toList := fun h => e (by rw [← hs.1, ← ht.1, h])
    have h2 : (s.data.toList == t.data.toList) = false := by rw [beq_eq_false_iff_ne]; exact this
    rw [h2]; simp [e]

def cmpN (m n : Nat) : Int := if m < n then -1 else if n < m then 1 else 0
def RetC (m n : Nat) (e : Ending) : Prop := e = .returned (.int .i64 (cmpN m n))

set_option maxRecDepth 100000 in
set_option maxHeartbeats 4000000 in
theorem cmp_any (a b : ByteArray) (m n : Nat) (w : World) (ha : IsB a m) (hb : IsB b n) (hm : m < 256 ^ 16) (hn : n < 256 ^ 16) : Calls Tryz.prog 173 #[.string a, .string b] w fun e w' => RetC m n e ∧ w = w' := by
  have C1 := Lib.hid fun w => canon_b a m w ha hm
  have C2 := Lib.hid fun w => canon_b b n w hb hn
  clear ha hb
  go_enter Tryz.func173, Tryz.ntmps173
  go_wp2_with (first
    | (go_at_call 110; ((with_reducible refine (C1.out _).mono ?_); rintro e w' ⟨⟨s, rfl, hs⟩, rfl⟩; have zs : s.size ≤ 16 := hs.2 16 hm))
    | (go_at_call 110; ((with_reducible refine (C2.out _).mono ?_); rintro e w' ⟨⟨t, rfl, ht⟩, rfl⟩; have zt : t.size ≤ 16 := ht.2 16 hn)))
  all_goals go_ret
  all_goals refine ⟨?_, rfl⟩
  · rename_i h1 _ _ _ h2
    have := hs.lt_of_size ht h2
    show Ending.returned _ = _
    unfold cmpN
    rw [if_pos this]
    rfl
  · rename_i h1 h2
    have := ht.lt_of_size hs (by simp at h1; omega)
    show Ending.returned _ = _
    unfold cmpN
    rw [if_neg (by omega), if_pos this]
    rfl
  · skip
    have h1 : ((s.size : Int) != (t.size : Int)) = false := by assumption
    have h2 : Op.bytesLess s.toList t.toList = true := by assumption
    rw [hs.less ht h1] at h2
    have := of_decide_eq_true h2
    show Ending.returned _ = _
    unfold cmpN
    rw [if_pos this]
    rfl
  · skip
    have h1 : ((s.size : Int) != (t.size : Int)) = false := by assumption
    have h2 : Op.bytesLess s.toList t.toList = false := by assumption
    have h3 : (!s.toList == t.toList) = true := by assumption
    rw [hs.less ht h1] at h2
    rw [hs.same ht h1] at h3
    have q2 := of_decide_eq_false h2
    have q3 := of_decide_eq_true h3
    show Ending.returned _ = _
    unfold cmpN
    rw [if_neg q2, if_pos (by omega)]
    rfl
  · skip
    have h1 : ((s.size : Int) != (t.size : Int)) = false := by assumption
    have h2 : Op.bytesLess s.toList t.toList = false := by assumption
    have h3 : (!s.toList == t.toList) = false := by assumption
    rw [hs.less ht h1] at h2
    rw [hs.same ht h1] at h3
    have q2 := of_decide_eq_false h2
    have q3 := of_decide_eq_false h3
    show Ending.returned _ = _
    unfold cmpN
    rw [if_neg q2, if_neg (by omega)]
    rfl

/-- A number and true come back. -/
def RetS (n : Nat) (e : Ending) : Prop := ∃ t : ByteArray, e = .returned (.tuple #[.string t, .bool true]) ∧ IsB t n

set_option maxRecDepth 100000 in
set_option maxHeartbeats 4000000 in
theorem sub_any (a b : ByteArray) (m n : Nat) (w : World) (ha : IsB a m) (hb : IsB b n) (hm : m < 256 ^ 16) (hle : n ≤ m) : Calls Tryz.prog 174 #[.string a, .string b] w fun e w' => RetS (m - n) e ∧ Below w.heap.size w w' := by
  have hn : n < 256 ^ 16 := Nat.lt_of_le_of_lt hle hm
  have C1 := Lib.hid fun w => cmp_any a b m n w ha hb hm hn
  have C2 := Lib.hid fun w => digits_any a m w ha hm
  have C3 := Lib.hid fun w => digits_any b n w hb hn
  have hc : decide (cmpN m n < 0) = false := by unfold cmpN; rw [if_neg (by omega)]; split <;> decide
  clear ha hb
  go_enter Tryz.func174, Tryz.ntmps174
  go_wp2_with (first
    | (go_at_call 173; ((with_reducible refine (C1.out _).mono ?_); rintro e w' ⟨rfl, rfl⟩))
    | (go_at_call 112; ((with_reducible refine (C2.out _).mono ?_); rintro e w1 ⟨⟨u, l, rfl, d1, d2, d3, d4, d5⟩, b1⟩))
    | (go_at_call 112; ((with_reducible refine (C3.out _).mono ?_); rintro e w2 ⟨⟨u2, l2, rfl, f1, f2, f3, f4, f5⟩, b2⟩))
    | (go_at_call 116; ((with_reducible refine (minus_any _ _ l l2 _ (d1.below b2) f1 d3 f3 (by omega) (by omega) (by rw [d2, f2]; exact hle)).mono ?_); rintro e w3 ⟨⟨u3, l3, rfl, g1, g2, g3, g4⟩, b3⟩))
    | (go_at_call 118; ((with_reducible refine (number_any _ l3 _ g1 g3 (by omega)).mono ?_); rintro e w4 ⟨⟨t, rfl, ht⟩, b4⟩)))
  go_ret2
  rw [g2, d2, f2] at ht
  exact ⟨⟨t, rfl, ht⟩, ((b1.trans (b2.mono b1.size)).trans (b3.mono (Nat.le_trans b1.size b2.size))).trans (b4.mono (Nat.le_trans (Nat.le_trans b1.size b2.size) b3.size))⟩
end Go.EvProp
