/- ItemPartials, one part of the proof: PartW11, PartW15. -/
import Derived.Test.YtljoobbnhbaklaaGreatDoorP00
import Derived.Deep.RegionHeld3
import Derived.Deep.RegionLaw
import Derived.Deep.AppendLies
import Derived.Deep.DeepCutAuto
set_option linter.all false
set_option maxRecDepth 100000
set_option maxHeartbeats 16000000
namespace Go.EvPart.N
open Go Go.Proofs Go.RowKit Go.EvNil
def Nats (w : World) (b n : Nat) (U : Nat -> Nat) : Prop := b < w.heap.size /\ ∃ cs : Array Value, w.heap[b]? = some (.cells cs 99 (0, 0)) /\ cs.size = n /\ ∀ i, i < n -> ∃ (s : ByteArray) (m : Nat), cs[i]? = some (.string s) /\ IsN s m /\ m <= U i
theorem Nats.cell {w : World} {b n : Nat} {U : Nat -> Nat} (h : Nats w b n U) {i : Nat} (hi : i < n) : ∃ (s : ByteArray) (m : Nat), w.cell? ⟨b, i, none⟩ = some (.string s) /\ IsN s m /\ m <= U i := by
 obtain ⟨_, cs, h1, h2, h3⟩ := h
 obtain ⟨s, m, e, h4⟩ := h3 i hi
 exact ⟨s, m, cellOf h1 e, h4⟩
theorem Nats.below {w w' : World} {b n B : Nat} {U : Nat -> Nat} (h : Nats w b n U) (hB : b < B) (hb : Below B w w') : Nats w' b n U := by
 obtain ⟨h0, cs, h1, h2, h3⟩ := h
 exact ⟨Nat.lt_of_lt_of_le h0 hb.size, cs, by rw [hb.block b hB]; exact h1, h2, h3⟩
theorem Nats.free {w : World} {b n : Nat} {U : Nat -> Nat} (h : Nats w b n U) (i : Nat) : w.frozen? ⟨b, i, none⟩ = false := by
 obtain ⟨_, cs, h1, _⟩ := h
 simp [World.frozen?, h1]
theorem Nats.mono {w : World} {b n : Nat} {U U' : Nat -> Nat} (h : Nats w b n U) (hu : ∀ i, i < n -> U i <= U' i) : Nats w b n U' := by
 obtain ⟨h0, cs, h1, h2, h3⟩ := h
 exact ⟨h0, cs, h1, h2, fun i hi => by obtain ⟨s, m, a, b, c⟩ := h3 i hi; exact ⟨s, m, a, b, Nat.le_trans c (hu i hi)⟩⟩
theorem Nats.set {w : World} {b n : Nat} {U : Nat -> Nat} (h : Nats w b n U) {j m : Nat} {s : ByteArray} (hj : j < n) (hs : IsN s m) (hm : m <= U j) : Nats (w.setCell ⟨b, j, none⟩ (.string s)) b n U := by
 obtain ⟨h0, cs, h1, h2, h3⟩ := h
 refine ⟨by simpa using h0, cs.setIfInBounds j (.string s), Joins.block_setCell h1 _, by simpa using h2, fun i hi => ?_⟩
 by_cases e : i = j
 · subst e
   exact ⟨s, m, by simp [h2, hi], hs, hm⟩
 · obtain ⟨s', m', a, b⟩ := h3 i hi
   exact ⟨s', m', by rw [Array.getElem?_setIfInBounds_ne (Ne.symm e)]; exact a, b⟩
theorem Nats.zero (w : World) : Nats (w.alloc (.cells (Array.replicate 10 (.string ⟨#[]⟩)) 99)) w.heap.size 10 (fun _ => 0) :=
 ⟨by simp, Array.replicate 10 (.string ⟨#[]⟩), heapNew w _, by simp, fun i hi => ⟨⟨#[]⟩, 0, by simp [hi], ⟨rfl, by decide, fun _ => rfl⟩, Nat.le_refl _⟩⟩
theorem joined_any (a b n ca cb : Nat) (W C : Nat -> Nat) (w : World) (hn : n <= 10) (hA : Nats w a 10 W) (hB : Nats w b n C) (hW : ∀ i, i < 10 -> W i < 16777216) (hC : ∀ i, i < n -> C i < 2147483648) (hU : ∀ i, i < 10 -> sumC W C n i 10 < 281474976710656) :
   Calls Tryz.prog 101 #[.slice (some ⟨a, 0, none⟩) 10 ca, .slice (some ⟨b, 0, none⟩) n cb] w fun e w' => e = .returned (.slice (some ⟨w.heap.size, 0, none⟩) 10 10) /\ Nats w' w.heap.size 10 (fun i => sumC W C n i 10) /\ Below w.heap.size w w' := by
 have hmk : ∀ w, (Instr.makeSlice 100 (.int .i64 10) (.int .i64 10)).run Tryz.prog w = .ok (.slice (some ⟨w.heap.size, 0, none⟩) 10 10) (w.alloc (.cells (Array.replicate 10 (.string ⟨#[]⟩)) 99)) := fun w => by kernel_rfl
 have la := hA.1
 have lb := hB.1
 go_enter Tryz.func101, Tryz.ntmps101
 go_wp2
 have N0 := Nats.zero w
 have B0 : Below w.heap.size w (w.alloc (.cells (Array.replicate 10 (.string ⟨#[]⟩)) 99)) := (Below.refl _ _).alloc (Nat.le_refl _) _
 generalize w.alloc (.cells (Array.replicate 10 (.string ⟨#[]⟩)) 99) = w1 at *
 clear hmk
 go_loopw [6] (fun i wr => ∃ k : Nat, k <= 10 /\ i = .int .i64 k /\ Nats wr w.heap.size 10 (fun i => sumC W C n i k) /\ Below w.heap.size w wr) (fun i _ => 10 - (intOf i).toNat)
 case atStart => exact ⟨0, by omega, rfl, N0, B0⟩
 case round =>
   obtain ⟨wo, rfl⟩ : ∃ wo : World, wo = wr := ⟨_, rfl⟩
   obtain ⟨k, hk, rfl, hN, hbr⟩ := hrel
   by_cases hlt : k < 10
   · have hki : (k : Int) < 10 := by omega
     go_wp2
     go_loopw [7] (fun i wq => ∃ m : Nat, 1 <= m /\ m <= 10 /\ i = .int .i64 m /\ Nats wq w.heap.size 10 (fun i => partC W C n k m i) /\ Below w.heap.size w wq) (fun i _ => 10 - (intOf i).toNat)
     case atStart => exact ⟨1, by omega, by omega, rfl, hN.mono fun i _ => by rw [partC_start]; exact Nat.le_refl _, hbr⟩
     case round =>
       obtain ⟨m, hm1, hm, rfl, hQ, hbq⟩ := hrel
       by_cases hin : m < n /\ k + m < 10
       · obtain ⟨q1, q2⟩ := hin
         have j1 : (m : Int) < (n : Int) := by omega
         have j2 : (k : Int) + (m : Int) < 10 := by omega
         obtain ⟨so, vo, co, no, lo⟩ := hQ.cell (i := k + m) (by omega)
         obtain ⟨sa, va, ca', na, la'⟩ := (hA.below la hbq).cell (i := k) hlt
         obtain ⟨sb, vb, cb', nb, lb'⟩ := (hB.below lb hbq).cell (i := m) q1
         have hsw : w.heap.size < wr.heap.size := hQ.1
         have law : a < wr.heap.size := Nat.lt_of_lt_of_le la hbq.size
         have lbw : b < wr.heap.size := Nat.lt_of_lt_of_le lb hbq.size
         have b1 : va < 16777216 := Nat.lt_of_le_of_lt la' (hW k hlt)
         have b2 : vb < 2147483648 := Nat.lt_of_le_of_lt lb' (hC m q1)
         have b3 : vo + va * vb < 281474976710656 := by
           have h1 : va * vb <= W k * C m := Nat.mul_le_mul la' lb'
           have h2 := partC_step W C n k m (by omega) q1
           have h3 := partC_le W C n k (m + 1) (k + m)
           have h4 := sumC_le W C n (k + m) (k + 1) 10 (by omega)
           have h5 := hU (k + m) q2
           omega
         have fo : wr.frozen? ⟨w.heap.size, k + m, none⟩ = false := hQ.free _
         have HQ := Lib.hid hQ
         clear hQ
         go_wp2
         have s1 : IntKind.i64.wrap ((k : Int) + (m : Int)) = (k : Int) + (m : Int) := IntWalk.i64_in _ ⟨by omega, by omega⟩
         have s2 : (0 : Int) <= (k : Int) + (m : Int) := by omega
         have s3 : ((k : Int) + (m : Int)).toNat = k + m := by omega
         have s4 : (0 : Int) <= (k : Int) := by omega
         have s5 : (0 : Int) <= (m : Int) := by omega
         go_region_law (first
             | (go_simp; go_at_call 160; refine (mul_small sa sb va vb _ na nb b1 b2).mono ?_; rintro e w5 ⟨⟨t1, rfl, hv1, hz1⟩, hb5⟩; have g1 : w5.cell? ⟨w.heap.size, k + m, none⟩ = some (.string so) := (by rw [hb5.cell (by simpa using hsw)]; exact co); have g2 : w5.frozen? ⟨w.heap.size, k + m, none⟩ = false := (by rw [hb5.frozen (by simpa using hsw)]; exact fo))
             | (go_simp; go_at_call 41; refine (add_small so t1 vo (va * vb) _ no ⟨hv1, hz1⟩ (by omega) (by omega)).mono ?_; rintro e w6 ⟨⟨t2, rfl, hv2, hz2⟩, hb6⟩; have g3 : w6.frozen? ⟨w.heap.size, k + m, none⟩ = false := (by rw [hb6.frozen (Nat.lt_of_lt_of_le hsw hb5.size)]; exact g2); have g4 : w6.cell? ⟨w.heap.size, k + m, none⟩ = some (.string so) := (by rw [hb6.cell (Nat.lt_of_lt_of_le hsw hb5.size)]; exact g1)))
         all_goals (
           have hQ : Nats wr w.heap.size 10 (fun i => partC W C n k m i) := HQ
           go_wp2
           have hQd : Nats wr.drew w.heap.size 10 (fun i => partC W C n k m i) := hQ.below hsw ((Below.refl wr.heap.size wr).drew)
           have hsd : w.heap.size < wr.drew.heap.size := hsw
           have B5 : Below w.heap.size wr.drew w5 := hb5.mono (Nat.le_of_lt hsd)
           have hs5 : w.heap.size < w5.heap.size := Nat.lt_of_lt_of_le hsd hb5.size
           have B6 : Below w.heap.size w5 w6 := hb6.mono (Nat.le_of_lt hs5)
           have h1 : va * vb <= W k * C m := Nat.mul_le_mul la' lb'
           have h2 := partC_step W C n k m (by omega) q1
           have hQ6 : Nats w6 w.heap.size 10 (fun i => partC W C n k (m + 1) i) := ((hQd.below hsd hb5).below hs5 hb6).mono fun i _ => partC_mono W C n k m i
           exact ⟨⟨m + 1, by omega, by omega, by go_num, hQ6.set q2 ⟨hv2, hz2⟩ (by omega), (((hbq.drew).trans B5).trans B6).setCell (Nat.le_refl _) _⟩, by simp [intOf]; omega⟩)
       · by_cases q1 : m < n
         · have j2 : ¬ ((k : Int) + (m : Int) < 10) := by omega
           go_wp2
           exact ⟨⟨k + 1, by omega, by go_num, hQ.mono fun i _ => partC_le W C n k m i, hbq⟩, by simp [intOf]; omega⟩
         · go_wp2
           exact ⟨⟨k + 1, by omega, by go_num, hQ.mono fun i _ => partC_le W C n k m i, hbq⟩, by simp [intOf]; omega⟩
   · obtain rfl : k = 10 := by omega
     go_wp2
     go_ret
     exact ⟨rfl, hN, hbr⟩
end Go.EvPart.N
namespace Go.EvPart.N
open Go Go.Proofs Go.RowKit Go.EvNil
structure OutRow (w : World) (base : Nat) (v : Value) (k : Nat) (bs M : Nat -> Nat) (U : Nat -> Nat -> Nat) : Prop where
 row : w.ownsRow base 100 1 v k ((List.range k).map fun s => .slice (some ⟨bs s, 0, none⟩) (M s + 1) (M s + 1))
 nat : ∀ s, s < k -> base <= bs s /\ Nats w (bs s) (M s + 1) (U s)
 inj : ∀ s t, s < k -> t < k -> s ≠ t -> bs s ≠ bs t
theorem ownsRow_below' {w w' : World} {base : Nat} {e : TypeId} {size : Nat} {v : Value} {n : Nat} {xs : List Value} (h : w.ownsRow base e size v n xs) (hb : Below w.heap.size w w') : w'.ownsRow base e size v n xs := by
 obtain ⟨h3, h4⟩ := h
 refine ⟨h3, ?_⟩
 rcases h4 with h4 | ⟨g, cap, cur, e1, e2, e3, e4⟩
 · exact .inl h4
 · exact .inr ⟨g, cap, cur, e1, e2, by rw [hb.block g (Array.getElem?_eq_some_iff.1 e3).1]; exact e3, e4⟩
theorem ownsRow_ne {w : World} {base : Nat} {e t : TypeId} {size : Nat} {v : Value} {n : Nat} {xs : List Value} (h : w.ownsRow base e size v n xs) {b : Nat} {cs : Array Value} {fr : Nat × Nat} (hb : w.heap[b]? = some (.cells cs t fr)) (ht : t ≠ e) : some b ≠ v.ownBlock := by
 obtain ⟨h3, h4⟩ := h
 rcases h4 with ⟨h4, _⟩ | ⟨g, cap, cur, e1, e2, e3, e4⟩
 · subst h4; simp [Value.ownBlock]
 · subst e1
   simp only [Value.ownBlock, ne_eq, Option.some.injEq]
   intro e5
   subst e5
   rw [hb] at e3
   cases e3
   exact ht rfl
theorem OutRow.below {w w' : World} {base : Nat} {v : Value} {k : Nat} {bs M : Nat -> Nat} {U : Nat -> Nat -> Nat} (h : OutRow w base v k bs M U) (hb : Below w.heap.size w w') : OutRow w' base v k bs M U :=
 ⟨ownsRow_below' h.row hb, fun s hs => ⟨(h.nat s hs).1, (h.nat s hs).2.below (h.nat s hs).2.1 hb⟩, h.inj⟩
theorem OutRow.mono {w : World} {base : Nat} {v : Value} {k : Nat} {bs M : Nat -> Nat} {U U' : Nat -> Nat -> Nat} (h : OutRow w base v k bs M U) (hu : ∀ s i, s < k -> i < M s + 1 -> U s i <= U' s i) : OutRow w base v k bs M U' :=
 ⟨h.row, fun s hs => ⟨(h.nat s hs).1, (h.nat s hs).2.mono fun i hi => hu s i hs hi⟩, h.inj⟩
theorem OutRow.form {w : World} {base : Nat} {v : Value} {k : Nat} {bs M : Nat -> Nat} {U : Nat -> Nat -> Nat} (h : OutRow w base v k bs M U) (h0 : 0 < k) : ∃ g cap, v = .slice (some ⟨g, 0, none⟩) k cap /\ base <= g /\ g < w.heap.size /\ ∀ s, s < k -> w.cell? ⟨g, s, none⟩ = some (.slice (some ⟨bs s, 0, none⟩) (M s + 1) (M s + 1)) := by
 obtain ⟨⟨h3, h4⟩, _, _⟩ := h
 rcases h4 with ⟨h4, h5⟩ | ⟨g, cap, cur, e1, e2, e3, e4, e5, e6, e7⟩
 · omega
 · refine ⟨g, cap, e1, e2, heap_lt' e3, fun s hs => ?_⟩
   have : (cur.toList.take (k * 1))[s]? = some (Value.slice (some ⟨bs s, 0, none⟩) (M s + 1) (M s + 1)) := by rw [e7]; simp [hs]
   rw [List.getElem?_take, if_pos (by omega)] at this
   simp only [World.cell?, e3]
   simpa using this
theorem OutRow.set {w : World} {base : Nat} {v : Value} {k : Nat} {bs M : Nat -> Nat} {U U' : Nat -> Nat -> Nat} (h : OutRow w base v k bs M U) (hu : ∀ s i, s < k -> i < M s + 1 -> U s i <= U' s i) {s j m : Nat} {t : ByteArray} (hs : s < k) (hj : j < M s + 1) (ht : IsN t m) (hm : m <= U' s j) : OutRow (w.setCell ⟨bs s, j, none⟩ (.string t)) base v k bs M U' := by
 obtain ⟨_, cs, hcs, _⟩ := (h.nat s hs).2
 have hne := ownsRow_ne h.row hcs (by decide)
 refine ⟨⟨h.row.1, ?_⟩, fun q hq => ⟨(h.nat q hq).1, ?_⟩, h.inj⟩
 · rcases h.row.2 with h4 | ⟨g, cap, cur, e1, e2, e3, e4⟩
   · exact .inl h4
   · refine .inr ⟨g, cap, cur, e1, e2, ?_, e4⟩
     rw [Below.heap_setCell _ _ _ _ (fun e => hne (by subst e1; simp [Value.ownBlock, e]))]
     exact e3
 · by_cases e : q = s
   · subst e
     exact ((h.nat q hq).2.mono fun i hi => hu q i hq hi).set hj ht hm
   · have h1 := ((h.nat q hq).2.mono fun i hi => hu q i hq hi)
     obtain ⟨h0, cs', h2, h3⟩ := h1
     exact ⟨by simpa using h0, cs', by rw [Below.heap_setCell _ _ _ _ (h.inj q s hq hs e)]; exact h2, h3⟩
theorem Nats.zeros (w : World) (n : Nat) (U : Nat -> Nat) : Nats (w.alloc (.cells (Array.replicate n (.string ⟨#[]⟩)) 99)) w.heap.size n U :=
 ⟨by simp, Array.replicate n (.string ⟨#[]⟩), heapNew w _, by simp, fun i hi => ⟨⟨#[]⟩, 0, by simp [hi], ⟨rfl, by decide, fun _ => rfl⟩, Nat.zero_le _⟩⟩
theorem OutRow.next {w w6 : World} {base : Nat} {v v' : Value} {k : Nat} {bs M : Nat -> Nat} {U : Nat -> Nat -> Nat} (h : OutRow w base v k bs M U) (hb : base <= w.heap.size) {o : Obj}
   (hown : w6.ownsRow base 100 1 v' (k + 1) (((List.range k).map fun s => Value.slice (some ⟨bs s, 0, none⟩) (M s + 1) (M s + 1)) ++ [.slice (some ⟨w.heap.size, 0, none⟩) (M k + 1) (M k + 1)]))
   (hg : ((w.alloc (.cells (Array.replicate (M k + 1) (.string ⟨#[]⟩)) 99)).alloc o).grownBy w6 v.ownBlock) : OutRow w6 base v' (k + 1) (fun s => if s = k then w.heap.size else bs s) M U := by
 have B1 : Below w.heap.size w ((w.alloc (.cells (Array.replicate (M k + 1) (.string ⟨#[]⟩)) 99)).alloc o) := ((Below.refl _ _).alloc (Nat.le_refl _) _).alloc (by simp) _
 have keep : ∀ (b : Nat) (cs : Array Value) (fr : Nat × Nat), ((w.alloc (.cells (Array.replicate (M k + 1) (.string ⟨#[]⟩)) 99)).alloc o).heap[b]? = some (Obj.cells cs 99 fr) -> w6.heap[b]? = some (Obj.cells cs 99 fr) := fun b cs fr hbk => by
   have := ownsRow_ne (ownsRow_below' h.row B1) hbk (by decide)
   rw [hg.block b (heap_lt' hbk) this]
   exact hbk
 refine ⟨?_, fun s hs => ?_, fun s t hs ht hne => ?_⟩
 · rw [List.range_succ, List.map_append]
   have e1 : (List.range k).map (fun s => Value.slice (some ⟨if s = k then w.heap.size else bs s, 0, none⟩) (M s + 1) (M s + 1)) = (List.range k).map (fun s => Value.slice (some ⟨bs s, 0, none⟩) (M s + 1) (M s + 1)) := by
     apply List.map_congr_left
     intro s hs
     rw [if_neg (by have := List.mem_range.1 hs; omega)]
   rw [e1]
   simpa using hown
 · by_cases e : s = k
   · subst e
     rw [if_pos rfl]
     refine ⟨hb, ?_⟩
     obtain ⟨h0, cs, h1, h2⟩ := (Nats.zeros w (M s + 1) (U s)).below (B := w.heap.size + 1) (by omega) (w' := (w.alloc (.cells (Array.replicate (M s + 1) (.string ⟨#[]⟩)) 99)).alloc o) ((Below.refl _ _).alloc (by simp) _)
     exact ⟨Nat.lt_of_lt_of_le h0 hg.size, cs, keep _ _ _ h1, h2⟩
   · rw [if_neg e]
     obtain ⟨h3, h4⟩ := h.nat s (by omega)
     obtain ⟨h0, cs, h1, h2⟩ := h4.below h4.1 B1
     exact ⟨h3, Nat.lt_of_lt_of_le h0 hg.size, cs, keep _ _ _ h1, h2⟩
 · have lt : ∀ s, s < k -> bs s < w.heap.size := fun s hs => (h.nat s hs).2.1
   by_cases e : s = k
   · rw [if_pos e, if_neg (by omega)]
     have := lt t (by omega)
     omega
   · rw [if_neg e]
     by_cases e' : t = k
     · rw [if_pos e']
       have := lt s (by omega)
       omega
     · rw [if_neg e']
       exact h.inj s t (by omega) (by omega) hne
theorem info118 : (Tryz.prog.info? 100).map (fun i => (i.zero, i.size, i.bytes)) = some (some (.slice none 0 0), 1, 24) := by kernel_rfl
theorem mk118 (m : Nat) (h1 : 1 <= m) (h5 : m <= 5) : ∀ (w : World), (Instr.makeSlice 100 (.int .i64 ((m : Int) + 1)) (.int .i64 ((m : Int) + 1))).run Tryz.prog w = .ok (.slice (some ⟨w.heap.size, 0, none⟩) (m + 1) (m + 1)) (w.alloc (.cells (Array.replicate (m + 1) (.string ⟨#[]⟩)) 99)) := by
 have : m = 1 ∨ m = 2 ∨ m = 3 ∨ m = 4 ∨ m = 5 := by omega
 rcases this with rfl | rfl | rfl | rfl | rfl
 all_goals (intro w; kernel_rfl)
end Go.EvPart.N
