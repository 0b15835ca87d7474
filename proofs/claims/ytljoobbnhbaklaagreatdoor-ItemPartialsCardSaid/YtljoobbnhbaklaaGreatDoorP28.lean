/- ItemPartials, one part of the proof: PartS4. -/
import Derived.Test.YtljoobbnhbaklaaGreatDoorP27
set_option linter.all false
set_option maxRecDepth 100000
set_option maxHeartbeats 16000000
namespace Go.EvPart
open Go Go.Proofs Go.RowKit Go.EvNil
theorem part_prg {rs : List Rl} {M Z need : Nat -> Nat} (hZ : ∀ s, Z s <= M s + 1) (n k : Nat) : TabP rs M (part rs Z need n k) := fun s m p h => by
 unfold part at h
 split at h
 · rename_i hm
   have h1 : p ∈ tab rs Z need (n + 1) s m := by
     unfold tab
     rw [if_pos hm]
     obtain ⟨e, he, h⟩ := List.mem_flatMap.1 h
     exact List.mem_flatMap.2 ⟨e, List.mem_of_mem_take he, h⟩
   exact tab_prg hZ (n + 1) s m p h1
 · exact tab_prg hZ n s m p h
structure Tb (base : Nat) (w : World) (v : Value) (k : Nat) (Z bs : Nat -> Nat) (E : Nat -> Nat -> Value) (L : Nat -> Nat -> List (List Int)) : Prop where
 row : w.ownsRow base 65 1 v k ((List.range k).map fun s => .slice (some ⟨bs s, 0, none⟩) (Z s) (Z s))
 blk : ∀ s, s < k -> base <= bs s /\ ∃ arr, w.heap[bs s]? = some (Obj.cells arr 61 (0, 0)) /\ arr.size = Z s /\ ∀ i, i < Z s -> arr[i]? = some (E s i)
 ent : ∀ s i, s < k -> i < Z s -> ∃ ys, w.ownsRow base 22 1 (E s i) (L s i).length ys /\ PrL w ys (L s i)
 inj : ∀ s t, s < k -> t < k -> s ≠ t -> bs s ≠ bs t
 dis : ∀ s i t j, s < k -> i < Z s -> t < k -> j < Z t -> ¬ (s = t /\ i = j) -> (E s i).ownBlock = none ∨ (E s i).ownBlock ≠ (E t j).ownBlock
theorem Tb.congr {base : Nat} {w : World} {v : Value} {k : Nat} {Z bs : Nat -> Nat} {E : Nat -> Nat -> Value} {L L' : Nat -> Nat -> List (List Int)} (h : Tb base w v k Z bs E L) (e : ∀ s i, L s i = L' s i) : Tb base w v k Z bs E L' := by
 have : L = L' := funext fun s => funext fun i => e s i
 subst this; exact h
theorem ownsKept {w w' : World} {base : Nat} {e : TypeId} {size : Nat} {v : Value} {n : Nat} {xs : List Value} (h : w.ownsRow base e size v n xs) (hk : ∀ g cur, v.ownBlock = some g -> w.heap[g]? = some (Obj.cells cur e (0, 0)) -> w'.heap[g]? = some (Obj.cells cur e (0, 0))) : w'.ownsRow base e size v n xs := by
 obtain ⟨h3, h4⟩ := h
 refine ⟨h3, ?_⟩
 rcases h4 with h4 | ⟨g, cap, cur, e1, e2, e3, e4⟩
 · exact .inl h4
 · exact .inr ⟨g, cap, cur, e1, e2, hk g cur (by rw [e1]; rfl) e3, e4⟩
theorem Tb.below {base : Nat} {w w' : World} {v : Value} {k : Nat} {Z bs : Nat -> Nat} {E : Nat -> Nat -> Value} {L : Nat -> Nat -> List (List Int)} (h : Tb base w v k Z bs E L) (hb : Below w.heap.size w w') : Tb base w' v k Z bs E L := by
 refine ⟨ownsRow_below'' h.row hb, fun s hs => ?_, fun s i hs hi => ?_, h.inj, h.dis⟩
 · obtain ⟨h1, arr, h2, h3⟩ := h.blk s hs
   exact ⟨h1, arr, by rw [hb.block _ (heap_lt' h2)]; exact h2, h3⟩
 · obtain ⟨ys, h1, h2⟩ := h.ent s i hs hi
   exact ⟨ys, ownsRow_below'' h1 hb, h2.below hb⟩
theorem keepSet {w : World} {b i : Nat} {x : Value} {cs : Array Value} {t e : TypeId} {fr : Nat × Nat} (hb : w.heap[b]? = some (Obj.cells cs t fr)) (ht : t ≠ e) {g : Nat} {arr : Array Value} {fz : Nat × Nat} (hg : w.heap[g]? = some (Obj.cells arr e fz)) : (w.setCell ⟨b, i, none⟩ x).heap[g]? = some (Obj.cells arr e fz) := by
 have : g ≠ b := fun h => by
   subst h
   rw [hb] at hg
   cases hg
   exact ht rfl
 rw [Below.heap_setCell _ _ _ _ this]; exact hg
theorem ownsSet {w : World} {base : Nat} {e : TypeId} {size : Nat} {v : Value} {n : Nat} {xs : List Value} (h : w.ownsRow base e size v n xs) {b i : Nat} {x : Value} {cs : Array Value} {t : TypeId} {fr : Nat × Nat} (hb : w.heap[b]? = some (Obj.cells cs t fr)) (ht : t ≠ e) : (w.setCell ⟨b, i, none⟩ x).ownsRow base e size v n xs :=
 ownsKept h fun _ _ _ hg => keepSet hb ht hg
theorem keepISet {w : World} {b i : Nat} {x : Value} {cs : Array Value} {t : TypeId} {fr : Nat × Nat} (hb : w.heap[b]? = some (Obj.cells cs t fr)) (ht : t ≠ 3) : KeepI w (w.setCell ⟨b, i, none⟩ x) := fun _ _ _ hg => keepSet hb ht hg
theorem Tb.set {base : Nat} {w : World} {v : Value} {k : Nat} {Z bs : Nat -> Nat} {E : Nat -> Nat -> Value} {L : Nat -> Nat -> List (List Int)} (h : Tb base w v k Z bs E L) {b i : Nat} {x : Value} {cs : Array Value} {t : TypeId} {fr : Nat × Nat} (hb : w.heap[b]? = some (Obj.cells cs t fr)) (h1 : t ≠ 3) (h2 : t ≠ 22) (h3 : t ≠ 61) (h4 : t ≠ 65) : Tb base (w.setCell ⟨b, i, none⟩ x) v k Z bs E L := by
 refine ⟨ownsSet h.row hb h4, fun s hs => ?_, fun s j hs hj => ?_, h.inj, h.dis⟩
 · obtain ⟨g1, arr, g2, g3⟩ := h.blk s hs
   exact ⟨g1, arr, keepSet hb h3 g2, g3⟩
 · obtain ⟨ys, g1, g2⟩ := h.ent s j hs hj
   exact ⟨ys, ownsSet g1 hb h2, g2.kept (keepISet hb h1)⟩
def updE {α : Type} (E : Nat -> Nat -> α) (s0 i0 : Nat) (x : α) : Nat -> Nat -> α := fun s i => if s = s0 /\ i = i0 then x else E s i
theorem updE_at {α : Type} (E : Nat -> Nat -> α) (s0 i0 : Nat) (x : α) : updE E s0 i0 x s0 i0 = x := by simp [updE]
theorem updE_ne {α : Type} (E : Nat -> Nat -> α) (s0 i0 : Nat) (x : α) {s i : Nat} (h : ¬ (s = s0 /\ i = i0)) : updE E s0 i0 x s i = E s i := by simp only [updE, if_neg h]
theorem Tb.grown {base : Nat} {w w8 : World} {v v8 : Value} {k : Nat} {Z bs : Nat -> Nat} {E : Nat -> Nat -> Value} {L : Nat -> Nat -> List (List Int)} (h : Tb base w v k Z bs E L) {s0 i0 : Nat} (hs0 : s0 < k) (hi0 : i0 < Z s0) {ys zs : List Value} {m : List (List Int)}
   (hys : w.ownsRow base 22 1 (E s0 i0) (L s0 i0).length ys) (hp : PrL w ys (L s0 i0)) (hz : PrL w zs m) (hown : w8.ownsRow base 22 1 v8 ((L s0 i0).length + m.length) (ys ++ zs)) (hg : w.grownBy w8 (E s0 i0).ownBlock) (hat : v8.ownBlock = (E s0 i0).ownBlock ∨ v8.ownBlock = some w.heap.size) :
   Tb base (w8.setCell ⟨bs s0, i0, none⟩ v8) v k Z bs (updE E s0 i0 v8) (updE L s0 i0 (L s0 i0 ++ m)) := by
 have keep : ∀ {b : Nat} {cs : Array Value} {t : TypeId} {fr : Nat × Nat}, w.heap[b]? = some (Obj.cells cs t fr) -> t ≠ 22 -> w8.heap[b]? = some (Obj.cells cs t fr) := fun hb ht => by
   rw [hg.block _ (heap_lt' hb) (rowNe hys hb ht)]; exact hb
 have hK : KeepI w w8 := keptGrown hys hg
 obtain ⟨hb0, arr0, ha0, hz0, hc0⟩ := h.blk s0 hs0
 have hb8 := keep ha0 (by decide)
 have hlt : ∀ s i, s < k -> i < Z s -> ∀ g, (E s i).ownBlock = some g -> g < w.heap.size := fun s i hs hi g hgg => by
   obtain ⟨xs, h1, _⟩ := h.ent s i hs hi
   rcases h1.2 with ⟨e1, _⟩ | ⟨g', cap, cur, e1, e2, e3, _⟩
   · rw [e1] at hgg; cases hgg
   · rw [e1] at hgg; cases hgg; exact heap_lt' e3
 refine ⟨ownsSet (ownsKept h.row fun g cur _ hgg => keep hgg (by decide)) hb8 (by decide), fun s hs => ?_, fun s i hs hi => ?_, h.inj, fun s i t j hs hi ht hj hne => ?_⟩
 · obtain ⟨g1, arr, g2, g3, g4⟩ := h.blk s hs
   by_cases e : s = s0
   · subst e
     rw [ha0] at g2
     cases g2
     refine ⟨g1, arr0.setIfInBounds i0 v8, Joins.block_setCell hb8 _, by simpa using g3, fun i hi => ?_⟩
     by_cases ei : i = i0
     · subst ei
       rw [updE_at]
       simp [g3, hi]
     · rw [updE_ne _ _ _ _ (fun q => ei q.2), Array.getElem?_setIfInBounds_ne (Ne.symm ei)]
       exact g4 i hi
   · refine ⟨g1, arr, ?_, g3, fun i hi => ?_⟩
     · rw [Below.heap_setCell _ _ _ _ (h.inj s s0 hs hs0 e)]
       exact keep g2 (by decide)
     · rw [updE_ne _ _ _ _ (fun q => e q.1)]
       exact g4 i hi
 · by_cases e : s = s0 /\ i = i0
   · obtain ⟨rfl, rfl⟩ := e
     rw [updE_at, updE_at]
     exact ⟨ys ++ zs, by rw [List.length_append]; exact ownsSet hown hb8 (by decide), ((hp.kept hK).app (hz.kept hK)).kept (keepISet hb8 (by decide))⟩
   · rw [updE_ne _ _ _ _ e, updE_ne _ _ _ _ e]
     obtain ⟨xs, g1, g2⟩ := h.ent s i hs hi
     refine ⟨xs, ownsSet (ownsKept g1 fun g cur hgo hgg => ?_) hb8 (by decide), (g2.kept hK).kept (keepISet hb8 (by decide))⟩
     rw [hg.block _ (heap_lt' hgg) ?_]
     · exact hgg
     · rcases h.dis s i s0 i0 hs hi hs0 hi0 e with h1 | h1
       · rw [h1] at hgo; cases hgo
       · rw [hgo] at h1; exact h1
 · by_cases e : s = s0 /\ i = i0
   · obtain ⟨rfl, rfl⟩ := e
     have e' : ¬ (t = s /\ j = i) := fun q => hne ⟨q.1.symm, q.2.symm⟩
     rw [updE_at, updE_ne _ _ _ _ e']
     rcases hat with ha | ha
     · rw [ha]; exact h.dis s i t j hs hi ht hj hne
     · rw [ha]
       right
       intro q
       exact Nat.lt_irrefl _ (hlt t j ht hj _ q.symm)
   · rw [updE_ne _ _ _ _ e]
     by_cases e2 : t = s0 /\ j = i0
     · obtain ⟨rfl, rfl⟩ := e2
       rw [updE_at]
       rcases hat with ha | ha
       · rw [ha]; exact h.dis s i t j hs hi ht hj hne
       · rw [ha]
         right
         intro q
         exact Nat.lt_irrefl _ (hlt s i hs hi _ q)
     · rw [updE_ne _ _ _ _ e2]
       exact h.dis s i t j hs hi ht hj hne
theorem Tb.next {base : Nat} {w w6 : World} {v v6 : Value} {k : Nat} {Z bs : Nat -> Nat} {E : Nat -> Nat -> Value} {L : Nat -> Nat -> List (List Int)} (h : Tb base w v k Z bs E L) {nb : Nat} (hnb : base <= nb) (hnew : w.heap[nb]? = some (Obj.cells (Array.replicate (Z k) (.slice none 0 0)) 61 (0, 0))) (hne : ∀ s, s < k -> bs s ≠ nb) (hE : ∀ i, E k i = .slice none 0 0) (hL : ∀ i, L k i = [])
   (hown : w6.ownsRow base 65 1 v6 (k + 1) (((List.range k).map fun s => .slice (some ⟨bs s, 0, none⟩) (Z s) (Z s)) ++ [.slice (some ⟨nb, 0, none⟩) (Z k) (Z k)])) (hg : w.grownBy w6 v.ownBlock) : Tb base w6 v6 (k + 1) Z (fun s => if s = k then nb else bs s) E L := by
 have keep : ∀ {b : Nat} {cs : Array Value} {t : TypeId} {fr : Nat × Nat}, w.heap[b]? = some (Obj.cells cs t fr) -> t ≠ 65 -> w6.heap[b]? = some (Obj.cells cs t fr) := fun hb ht => by
   rw [hg.block _ (heap_lt' hb) (rowNe h.row hb ht)]; exact hb
 have hK : KeepI w w6 := fun _ _ _ hb => keep hb (by decide)
 refine ⟨?_, fun s hs => ?_, fun s i hs hi => ?_, fun s t hs ht hst => ?_, fun s i t j hs hi ht hj hst => ?_⟩
 · rw [List.range_succ, List.map_append, List.map_cons, List.map_nil, if_pos rfl]
   have e1 : (List.range k).map (fun s => Value.slice (some ⟨if s = k then nb else bs s, 0, none⟩) (Z s) (Z s)) = (List.range k).map (fun s => Value.slice (some ⟨bs s, 0, none⟩) (Z s) (Z s)) := by
     apply List.map_congr_left
     intro s hs
     rw [if_neg (by have := List.mem_range.1 hs; omega)]
   rw [e1]; exact hown
 · by_cases e : s = k
   · subst e
     rw [if_pos rfl]
     exact ⟨hnb, _, keep hnew (by decide), by simp, fun i hi => by rw [hE]; simp [hi]⟩
   · rw [if_neg e]
     obtain ⟨g1, arr, g2, g3⟩ := h.blk s (by omega)
     exact ⟨g1, arr, keep g2 (by decide), g3⟩
 · by_cases e : s = k
   · subst e
     rw [hE, hL]
     exact ⟨[], World.ownsRow_nil _ _ _ _, trivial⟩
   · obtain ⟨ys, g1, g2⟩ := h.ent s i (by omega) hi
     exact ⟨ys, ownsKept g1 fun _ _ _ hgg => keep hgg (by decide), g2.kept hK⟩
 · by_cases e : s = k
   · rw [if_pos e, if_neg (by omega)]; exact (hne t (by omega)).symm
   · rw [if_neg e]
     by_cases e2 : t = k
     · rw [if_pos e2]; exact hne s (by omega)
     · rw [if_neg e2]; exact h.inj s t (by omega) (by omega) hst
 · by_cases e : s = k
   · subst e; left; rw [hE]; rfl
   · by_cases e2 : t = k
     · subst e2
       rw [hE]
       cases hx : (E s i).ownBlock with
       | none => exact .inl rfl
       | some g => right; simp [Value.ownBlock]
     · exact h.dis s i t j (by omega) hi (by omega) hj hst
def TabV (w : World) (v : Value) (sn : Nat) (Z : Nat -> Nat) (L : Nat -> Nat -> List (List Int)) : Prop :=
 ∃ (lb lc : Nat) (bs : Nat -> Nat), v = .slice (some ⟨lb, 0, none⟩) sn lc /\ lb < w.heap.size /\ (∃ arr fz, w.heap[lb]? = some (Obj.cells arr 65 fz)) /\ ∀ a, a < sn -> bs a < w.heap.size /\ (∃ arr fz, w.heap[bs a]? = some (Obj.cells arr 61 fz)) /\ w.cell? ⟨lb, a, none⟩ = some (.slice (some ⟨bs a, 0, none⟩) (Z a) (Z a)) /\
   ∀ i, i < Z a -> ∃ va vc, w.cell? ⟨bs a, i, none⟩ = some (.slice va (L a i).length vc) /\ PrsAt w va (L a i) /\ (L a i).length <= vc
theorem Tb.read {base : Nat} {w : World} {v : Value} {k : Nat} {Z bs : Nat -> Nat} {E : Nat -> Nat -> Value} {L : Nat -> Nat -> List (List Int)} (h : Tb base w v k Z bs E L) (hk : 0 < k) : ∃ (lb lc : Nat), v = .slice (some ⟨lb, 0, none⟩) k lc /\ base <= lb /\ lb < w.heap.size /\ (∃ arr, w.heap[lb]? = some (Obj.cells arr 65 (0, 0))) /\ (∀ a, a < k -> w.cell? ⟨lb, a, none⟩ = some (.slice (some ⟨bs a, 0, none⟩) (Z a) (Z a))) := by
 rcases h.row.2 with ⟨_, h0⟩ | ⟨g, cap, cur, e1, e2, e3, e4, e5, e6, e7⟩
 · omega
 · refine ⟨g, cap, e1, e2, heap_lt' e3, ⟨cur, e3⟩, fun a ha => ?_⟩
   have : (cur.toList.take (k * 1))[a]? = some (Value.slice (some ⟨bs a, 0, none⟩) (Z a) (Z a)) := by rw [e7]; simp [ha]
   rw [List.getElem?_take, if_pos (by omega)] at this
   simp only [World.cell?, e3]
   simpa using this
theorem Tb.tabV {base : Nat} {w : World} {v : Value} {k : Nat} {Z bs : Nat -> Nat} {E : Nat -> Nat -> Value} {L : Nat -> Nat -> List (List Int)} (h : Tb base w v k Z bs E L) (hk : 0 < k) : TabV w v k Z L := by
 obtain ⟨lb, lc, e, _, h1, ⟨arl, hal⟩, h2⟩ := h.read hk
 refine ⟨lb, lc, bs, e, h1, ⟨arl, _, hal⟩, fun a ha => ?_⟩
 obtain ⟨g1, arr, g2, g3, g4⟩ := h.blk a ha
 refine ⟨heap_lt' g2, ⟨arr, _, g2⟩, h2 a ha, fun i hi => ?_⟩
 obtain ⟨ys, g5, g6⟩ := h.ent a i ha hi
 obtain ⟨va, vc, e1, e2, _, e3⟩ := prs_of_own g5 g6 rfl
 exact ⟨va, vc, by rw [cellOf g2 (g4 i hi), e1], e2, e3⟩
theorem TabV.at' {w : World} {v : Value} {sn sb : Nat} {Z : Nat -> Nat} {L : Nat -> Nat -> List (List Int)} (h : TabV w v sn Z L) (h6 : w.cell? ⟨sb, 6, none⟩ = some v) (hs : sb < w.heap.size) : TabAt w sb sn Z L := by
 obtain ⟨lb, lc, bs, rfl, h1, _, h2⟩ := h
 refine ⟨hs, lb, lc, bs, h6, h1, fun a ha => ?_⟩
 obtain ⟨g1, _, g2, g3⟩ := h2 a ha
 exact ⟨g1, g2, fun i hi => by obtain ⟨va, vc, e1, e2, _⟩ := g3 i hi; exact ⟨va, vc, e1, e2⟩⟩
theorem part_upd (rs : List Rl) (Z need : Nat -> Nat) (n k : Nat) (hk : k < rs.length) (hz : n + 1 < Z rs[k].h) (hn : n + 1 <= need rs[k].h) : ∀ s i, updE (part rs Z need n k) rs[k].h (n + 1) (part rs Z need n k rs[k].h (n + 1) ++ lists (part rs Z need n k) Z [(k : Int)] rs[k].args n) s i = part rs Z need n (k + 1) s i := fun s i => by
 rw [part_step rs Z need n k s i hk]
 by_cases e : s = rs[k].h /\ i = n + 1
 · obtain ⟨rfl, rfl⟩ := e
   rw [updE_at, if_pos rfl, lists_part]
   unfold node
   rw [if_pos ⟨rfl, hz, hn⟩]
 · rw [updE_ne _ _ _ _ e]
   by_cases ei : i = n + 1
   · rw [if_pos ei]
     unfold node
     rw [if_neg fun q => e ⟨q.1.symm, ei⟩, List.append_nil]
   · rw [if_neg ei, List.append_nil]
theorem part_same (rs : List Rl) (Z need : Nat -> Nat) (n k : Nat) (hk : k < rs.length) (h : ¬ (n + 1 < Z rs[k].h /\ n + 1 <= need rs[k].h)) : ∀ s i, part rs Z need n k s i = part rs Z need n (k + 1) s i := fun s i => by
 rw [part_step rs Z need n k s i hk]
 split
 · unfold node
   rw [if_neg fun q => h (by rw [← q.1] at q; exact ⟨q.2.1, q.2.2⟩), List.append_nil]
 · rw [List.append_nil]
end Go.EvPart
