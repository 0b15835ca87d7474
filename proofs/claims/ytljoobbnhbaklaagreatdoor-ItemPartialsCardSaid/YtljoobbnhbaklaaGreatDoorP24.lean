/- ItemPartials, one part of the proof: PartD, PartR2, PartR3, PartR4, PartB. -/
import Derived.Test.YtljoobbnhbaklaaGreatDoorP23
import Derived.Deep.AppendLies
import Derived.Test.YtljoobbnhbaklaaGreatDoorP12
set_option linter.all false
set_option maxRecDepth 100000
set_option maxHeartbeats 16000000
namespace Go.EvPart
open Go.EvNil (Rl)
theorem beside_nil (rs : List Rl) (p : List Int) (a : Nat) : beside rs p [] a = some a := rfl
theorem beside_rule (rs : List Rl) (p : List Int) (x : Int) (t : List Int) (a : Nat) (h : p[a]? = some x) (hx : x ≠ -1) : beside rs p (x :: t) a = beside rs p t (a + 1) := by
 rw [beside, h]; simp [hx]
theorem beside_hole (rs : List Rl) (p : List Int) (x : Nat) (hx : x < rs.length) (t : List Int) (a m : Nat) (h : p[a]? = some (x : Int)) (he : eat rs [rs[x].h] (p.drop a) = some m) : beside rs p (-1 :: t) a = beside rs p t (a + m) := by
 have : hdOf rs (x : Int) = rs[x].h := by simp [hdOf, hx]
 rw [beside, h]; simp [this, he]
theorem beside_own (rs : List Rl) (p : List Int) (hn : ∀ x ∈ p, x ≠ -1) (t : List Int) : ∀ (k a : Nat), a + k <= p.length -> beside rs p ((p.drop a).take k ++ t) a = beside rs p t (a + k)
 | 0, a, _ => by simp
 | k + 1, a, h => by
   have ha : a < p.length := by omega
   rw [List.drop_eq_getElem_cons ha, List.take_succ_cons, List.cons_append, beside_rule rs p _ _ a (List.getElem?_eq_getElem ha) (hn _ (List.getElem_mem ha)), beside_own rs p hn t k (a + 1) (by omega)]
   rw [show a + 1 + k = a + (k + 1) by omega]
theorem beside_self (rs : List Rl) (p : List Int) (hn : ∀ x ∈ p, x ≠ -1) : beside rs p p 0 = some p.length := by
 have := beside_own rs p hn [] p.length 0 (by omega)
 simpa [beside_nil] using this
theorem beside_eq (rs : List Rl) (p : List Int) : ∀ (t : List Int) (a b : Nat), (∀ x ∈ t, x ≠ -1) -> beside rs p t a = some b -> a <= p.length -> b = a + t.length /\ (p.drop a).take t.length = t
 | [], a, b, _, h, _ => by rw [beside_nil] at h; cases h; simp
 | r :: t, a, b, hn, h, ha => by
   rw [beside] at h
   cases hp : p[a]? with
   | none => rw [hp] at h; cases h
   | some x =>
     rw [hp] at h
     have h1 : r ≠ -1 := hn r (List.mem_cons_self ..)
     simp only [h1, if_false] at h
     by_cases hx : r = x
     · rw [if_pos hx] at h
       obtain ⟨hlt, he⟩ := List.getElem?_eq_some_iff.1 hp
       obtain ⟨e1, e2⟩ := beside_eq rs p t (a + 1) b (fun y hy => hn y (List.mem_cons_of_mem _ hy)) h (by omega)
       refine ⟨by rw [List.length_cons]; omega, ?_⟩
       rw [List.drop_eq_getElem_cons hlt, List.length_cons, List.take_succ_cons, e2, he, hx]
     · rw [if_neg hx] at h; cases h
theorem beside_same (rs : List Rl) (p t : List Int) (hn : ∀ x ∈ t, x ≠ -1) : beside rs p t 0 = some p.length ↔ p = t := by
 constructor
 · intro h
   obtain ⟨e1, e2⟩ := beside_eq rs p t 0 _ hn h (Nat.zero_le _)
   rw [Nat.zero_add] at e1
   rw [List.drop_zero, ← e1, List.take_length] at e2
   exact e2
 · rintro rfl; exact beside_self rs p hn
section
variable {rs : List Rl} {M : Nat -> Nat} {s n : Nat} {p : List Int}
theorem Prg.nohole (h : Prg rs M s n p) : ∀ x ∈ p, x ≠ -1 := fun x hx => by have := h.rule x hx; omega
theorem Prg.whole (h : Prg rs M s n p) : Go.EvPart.eat rs [s] p = some p.length := by rw [h.eat, h.len]
theorem beside_all (h : Prg rs M s n p) : beside rs p [-1] 0 = some p.length := by
 obtain ⟨k, hk, q, rfl, hs⟩ := h.head
 rw [beside_hole rs _ k hk [] 0 ((k : Int) :: q : List Int).length rfl (by rw [List.drop_zero, hs]; exact h.whole), beside_nil, Nat.zero_add]
theorem opened_fits (h : Prg rs M s n p) (k x m : Nat) (hx : x < rs.length) (hp : p[k]? = some (x : Int)) (hm : eat rs [rs[x].h] (p.drop k) = some m) :
   eat rs [s] (p.take k ++ -1 :: p.drop (k + m)) = some (p.take k ++ -1 :: p.drop (k + m)).length /\ beside rs p (p.take k ++ -1 :: p.drop (k + m)) 0 = some p.length := by
 have hk : k < p.length := (List.getElem?_eq_some_iff.1 hp).1
 obtain ⟨h1, h2⟩ := eat_open rs p [s] p.length k h.whole hk h.nohole x hx hp m hm
 constructor
 · rw [h2]
   congr 1
   rw [List.length_append, List.length_cons, List.length_take, List.length_drop]
   omega
 · have e1 := beside_own rs p h.nohole (-1 :: p.drop (k + m)) k 0 (by omega)
   rw [List.drop_zero, Nat.zero_add] at e1
   rw [e1, beside_hole rs p x hx _ k m hp hm]
   have e2 := beside_own rs p h.nohole [] (p.length - (k + m)) (k + m) (by omega)
   rw [List.append_nil, List.take_of_length_le (by rw [List.length_drop]; omega), beside_nil] at e2
   rw [e2]
   congr 1
   omega
end
end Go.EvPart
namespace Go.EvPart
open Go Go.Proofs Go.RowKit Go.EvNil
def valI (l : List Int) : List Value := l.map fun x => .int .i64 x
theorem valI_len (l : List Int) : (valI l).length = l.length := by simp [valI]
theorem valI_one (l : List Int) : ∀ u ∈ valI l, u.oneCell' = true := fun u hu => by
 obtain ⟨x, _, rfl⟩ := List.mem_map.1 hu; rfl
theorem valI_app (a b : List Int) : valI (a ++ b) = valI a ++ valI b := by simp [valI]
theorem own_empty (w : World) (base : Nat) (e : TypeId) (size : Nat) (hb : base <= w.heap.size) : (w.alloc (.cells #[] e)).ownsRow base e size (.slice (some ⟨w.heap.size, 0, none⟩) 0 0) 0 [] :=
 ⟨by simp, .inr ⟨w.heap.size, 0, #[], rfl, hb, heapNew _ _, Nat.le_refl _, Nat.zero_le _, by simp, by simp⟩⟩
theorem row_list {w : World} {base : Nat} {v : Value} {n : Nat} {l : List Int} (h : w.ownsRow base 3 1 v n (valI l)) (hl : l.length = n) (h0 : v ≠ .slice none 0 0) : ∃ g cap, v = .slice (some ⟨g, 0, none⟩) l.length cap /\ ListAt w (some ⟨g, 0, none⟩) l /\ l.length <= cap := by
 obtain ⟨g, cap, cur, e1, e2, e3, e4, e5, e6⟩ := own_cells h h0
 subst hl
 refine ⟨g, cap, e1, fun _ => ⟨g, 0, rfl, heap_lt' e3, fun i hi => ?_⟩, e4⟩
 have := e6 i (by omega)
 rw [valI, List.getElem?_map, List.getElem?_eq_getElem hi] at this
 simp only [Nat.zero_add]
 exact cellOf e3 this
theorem part_cells {w : World} {pb po : Nat} {p : List Int} (h : ∀ i (hi : i < p.length), w.cell? ⟨pb, po + i, none⟩ = some (.int .i64 p[i])) (k n : Nat) : ∀ (j : Nat) u, (valI ((p.drop k).take n))[j]? = some u -> w.cell? (Addr.add ⟨pb, po + k, none⟩ j) = some u := fun j u hu => by
 rw [valI, List.getElem?_map] at hu
 obtain ⟨x, hx, rfl⟩ := Option.map_eq_some_iff.1 hu
 rw [List.getElem?_take] at hx
 split at hx
 · rw [List.getElem?_drop] at hx
   obtain ⟨hi, rfl⟩ := List.getElem?_eq_some_iff.1 hx
   have := h (k + j) hi
   rw [← Nat.add_assoc] at this
   unfold Addr.add
   split
   · rename_i h0; subst h0; rw [Nat.add_zero] at this; exact this
   · exact this
 · cases hx
section
variable {S : Sample} {M : Nat -> Nat} {rs : List Rl} {ca sa : Option Addr} {cc sc rb ro rc : Nat} {w : World}
def RetOp (rs : List Rl) (p : List Int) (e : Ending) (w' : World) : Prop := ∃ (k x m : Nat) (hx : x < rs.length), p[k]? = some (x : Int) /\ eat rs [rs[x].h] (p.drop k) = some m /\ ∃ va vc, e = .returned (.slice va (p.take k ++ -1 :: p.drop (k + m)).length vc) /\ ListAt w' va (p.take k ++ -1 :: p.drop (k + m))
theorem opened_ref (h : Gr S M rs ca sa cc sc rb ro rc w) (pa : Option Addr) (pc n : Nat) (p : List Int) (hp : ListAt w pa p) (hP : Prg rs M S.st n p) (hcap : p.length <= pc) (hcm : pc <= 9223372036854775807) (x0 : Int) :
   Calls Tryz.prog 8 #[.agg (gA S rs ca sa cc sc rb ro rc), .slice pa p.length pc, .int .i64 x0] w fun e w' => RetOp rs p e w' /\ Below w.heap.size w w' := by
 have hle : p.length <= 5 := by rw [hP.len]; exact Nat.le_trans hP.le (h.lim _).2
 have hpos : 0 < p.length := by rw [hP.len]; exact hP.pos
 have HM := Lib.hid (fun W => mod14_any x0 p.length W hpos (by omega))
 have HT := Lib.hid (term_ref (.string S.nm) (.int .i64 S.ver) (.slice ca S.cols.length cc) (.slice sa S.syms.length sc) (.int .i64 S.st) rs rb ro rc pa pc p w h.r hp h.al h.rn (Nat.le_trans hle (by decide)))
 have HX := GB.new w (gA S rs ca sa cc sc rb ro rc)
 have HS := Lib.hid hP.sub
 have HPL := Lib.hid (fun W (hW : Below w.heap.size w W) => hp.below hW)
 have HR := Lib.hid (fun W (hW : Below w.heap.size w W) => h.r.below hW)
 have z0 : ((p.length : Int) == 0) = false := by rw [beq_eq_false_iff_ne]; omega
 clear h hp hP
 go_enter Tryz.func8, Tryz.ntmps8
 go_upto_region 4 with (go_at_call 20; refine (HM.out _).mono ?_; rintro e w1 ⟨⟨k, hk, rfl⟩, rfl⟩)
 obtain ⟨x, hx, hpx, m, hm, hmM⟩ := HS.out k hk
 have hlm := eat_le rs _ _ _ hm
 rw [List.length_drop] at hlm
 obtain ⟨pb, po, rfl, hpb, hpc⟩ := HPL.out _ HX.b hpos
 have cp := hpc k hk
 rw [(List.getElem?_eq_some_iff.1 hpx).2] at cp
 obtain ⟨rb', ro', e', hrb, hrc⟩ := HR.out _ HX.b
 cases e'
 obtain ⟨aa, ac, hr⟩ := hrc x hx
 have q0 := hr.c0
 have j1 : (0 : Int) <= (k : Int) := by omega
 have j2 : (k : Int) < (p.length : Int) := by omega
 have j3 : (0 : Int) <= (x : Int) := by omega
 have j4 : (x : Int) < (rs.length : Int) := by omega
 have HTk := Lib.hid (fun W (hW : Below w.heap.size w W) => HT.out p.length k rs[x].h m W (Nat.sub_le _ _) hm hW)
 have g0 := cellOf (i := 0) HX.g rfl
 have g1 := cellOf (i := 1) HX.g rfl
 have g2 := cellOf (i := 2) HX.g rfl
 have g3 := cellOf (i := 3) HX.g rfl
 have g4 := cellOf (i := 4) HX.g rfl
 have g5 := cellOf (i := 5) HX.g rfl
 have HM' := Lib.hid hm
 clear hpc hrc HT HM hm
 have HPL' := HPL.out
 clear HPL HR
 go_region_held3 (fun X => X.cell? ⟨w.heap.size, 0, none⟩ = some (.string S.nm) /\ X.cell? ⟨w.heap.size, 1, none⟩ = some (.int .i64 S.ver) /\ X.cell? ⟨w.heap.size, 2, none⟩ = some (.slice ca S.cols.length cc) /\ X.cell? ⟨w.heap.size, 3, none⟩ = some (.slice sa S.syms.length sc) /\ X.cell? ⟨w.heap.size, 4, none⟩ = some (.slice (some ⟨rb, ro, none⟩) rs.length rc) /\ X.cell? ⟨w.heap.size, 5, none⟩ = some (.int .i64 S.st) /\ X.cell? ⟨pb, po + k, none⟩ = some (.int .i64 x) /\ X.cell? ⟨rb, ro + x * 4, none⟩ = some (.int .i64 rs[x].h)) (first | exact ⟨g0, g1, g2, g3, g4, g5, cp, q0⟩ | exact ⟨u0, u1, u2, u3, u4, u5, u6, u7⟩ | go_keep) (first | (go_at_call 26; refine (HTk.out _ (by first | exact HX.b.drew | exact HX.b)).mono ?_; rintro e w4 ⟨rfl, hb4⟩; have hb5 := ((Below.refl (w.alloc (.cells (gA S rs ca sa cc sc rb ro rc) 29)).heap.size (w.alloc (.cells (gA S rs ca sa cc sc rb ro rc) 29))).drew).trans hb4; have HX4 := HX.below hb5; have u0 := cellOf (i := 0) HX4.g rfl; have u1 := cellOf (i := 1) HX4.g rfl; have u2 := cellOf (i := 2) HX4.g rfl; have u3 := cellOf (i := 3) HX4.g rfl; have u4 := cellOf (i := 4) HX4.g rfl; have u5 := cellOf (i := 5) HX4.g rfl; have u6 : w4.cell? ⟨pb, po + k, none⟩ = some (.int .i64 x) := (by rw [hb5.cell hpb]; exact cp); have u7 : w4.cell? ⟨rb, ro + x * 4, none⟩ = some (.int .i64 rs[x].h) := (by rw [hb5.cell hrb]; exact q0)))
 clear g0 g1 g2 g3 g4 g5 u0 u1 u2 u3 u4 u5 u6 u7 q0 cp HTk hr HX hb4 hb5
 have B4 := HX4.b
 have hm := HM'.out
 clear HX4
 obtain ⟨iI, hiI, ha0, ha1, ha2⟩ := info_parts infoI
 have k0 : (0 : Int) <= (k : Int) + (m : Int) := by omega
 have k1 : (k : Int) + (m : Int) <= (p.length : Int) := by omega
 have k2 : (p.length : Int) <= (pc : Int) := by omega
 have k3 : (k : Int) <= (pc : Int) := by omega
 have hcells : ∀ X, Below w.heap.size w X -> ∀ i (hi : i < p.length), X.cell? ⟨pb, po + i, none⟩ = some (.int .i64 p[i]) := fun X hX => by
   obtain ⟨b', o', e', _, hc⟩ := HPL' X hX hpos
   cases e'; exact hc
 have HC := Lib.hid hcells
 have HN1 : Hid (∀ X, Below w.heap.size w X -> ∀ (j : Nat) u, (valI (p.take k))[j]? = some u -> X.cell? (Addr.add ⟨pb, po, none⟩ j) = some u) := Lib.hid fun X hX j u hu => by
   have := part_cells (HC.out X hX) 0 k j u (by rw [List.drop_zero]; exact hu)
   rwa [Nat.add_zero] at this
 have HN3 : Hid (∀ X, Below w.heap.size w X -> ∀ (j : Nat) u, (valI (p.drop (k + m)))[j]? = some u -> X.cell? (Addr.add ⟨pb, po + (k + m), none⟩ j) = some u) := Lib.hid fun X hX j u hu =>
   part_cells (HC.out X hX) (k + m) (p.length - (k + m)) j u (by rw [List.take_of_length_le (by rw [List.length_drop]; omega)]; exact hu)
 have l1 : (valI (p.take k)).length = k * 1 := by rw [valI_len, List.length_take]; omega
 have l3 : (valI (p.drop (k + m))).length = (p.length - (k + m)) * 1 := by rw [valI_len, List.length_drop]; omega
 have E1 := own_empty w4 w.heap.size 3 1 B4.size
 have B4a := B4.alloc B4.size (.cells #[] 3)
 go_upto_region 6 with (at_builtin; refine wpList_append_own _ rfl _ _ 22 rfl w.heap.size 3 iI _ 1 8 Tryz.underlying22 hiI ha0 ha1 ha2 rfl (by decide) (.slice (some ⟨w4.heap.size, 0, none⟩) 0 0) 0 [] rfl E1 ⟨pb, po, none⟩ k pc (valI (p.take k)) rfl l1 (HN1.out _ B4a) (valI_one _) (by unfold maxLen; omega) (by omega) B4a.size ?_; intro v5 w5 hown5 hgrow5 hnil5; rw [Nat.zero_add, List.nil_append] at hown5)
 have B5 := B4a.grown hgrow5 B4a.size (fun g hg => by simp [Value.ownBlock] at hg; subst hg; exact B4.size)
 have hv5 : v5 ≠ .slice none 0 0 := fun e => by have := (hnil5.1 e).1; simp at this
 obtain ⟨g5, cap5, cur5, rfl, hg5, _⟩ := own_cells hown5 hv5
 have O5 := hown5.alloc (.cells #[.int .i64 (-1)] 3)
 have B5a := B5.alloc B5.size (.cells #[.int .i64 (-1)] 3)
 have NB := World.news_of_block (cs := #[.int .i64 (-1)]) (t := 3) (fr := (0, 0)) (heap_alloc_new w5 (.cells #[.int .i64 (-1)] 3))
 clear hown5 hgrow5 hnil5 hv5 E1 B4a B4
 go_upto_region 7 with (at_builtin; refine wpList_append_own _ rfl _ _ 22 rfl w.heap.size 3 iI _ 1 8 Tryz.underlying22 hiI ha0 ha1 ha2 rfl (by decide) (.slice (some ⟨g5, 0, none⟩) k cap5) k _ rfl O5 ⟨w5.heap.size, 0, none⟩ 1 1 [.int .i64 (-1)] rfl rfl NB (by simp [Value.oneCell']) (by unfold maxLen; omega) (by omega) B5a.size ?_; intro v6 w6 hown6 hgrow6 hnil6)
 have B6 := B5a.grown hgrow6 B5a.size (fun g hg => by simp [Value.ownBlock] at hg; subst hg; exact hg5)
 have hv6 : v6 ≠ .slice none 0 0 := fun e => by have := (hnil6.1 e).1; simp at this
 obtain ⟨g6, cap6, cur6, rfl, hg6, _⟩ := own_cells hown6 hv6
 have k4 : ((k : Int) + (m : Int)).toNat = k + m := by omega
 clear hgrow6 hnil6 hv6 O5 B5a NB B5
 obtain ⟨ad, hif, hAD⟩ : ∃ ad : Addr, (if pc = k + m then some (⟨pb, po, none⟩ : Addr) else some ⟨pb, po + (k + m), none⟩) = some ad /\ ∀ X, Below w.heap.size w X -> ∀ (j : Nat) u, (valI (p.drop (k + m)))[j]? = some u -> X.cell? (Addr.add ad j) = some u := by
   by_cases hpe : pc = k + m
   · refine ⟨_, if_pos hpe, fun X hX j u hu => ?_⟩
     rw [List.drop_eq_nil_of_le (by omega)] at hu
     simp [valI] at hu
   · exact ⟨_, if_neg hpe, HN3.out⟩
 have HAD := Lib.hid hAD
 clear hAD HN3
 go_wp2_with (at_builtin; refine wpList_append_own _ rfl _ _ 22 rfl w.heap.size 3 iI _ 1 8 Tryz.underlying22 hiI ha0 ha1 ha2 rfl (by decide) (.slice (some ⟨g6, 0, none⟩) (k + 1) cap6) (k + 1) _ rfl hown6 ad (p.length - (k + m)) (pc - (k + m)) (valI (p.drop (k + m))) rfl l3 (HAD.out _ B6) (valI_one _) (by unfold maxLen; omega) (by omega) B6.size ?_; intro v7 w7 hown7 hgrow7 hnil7)
 go_ret
 have B7 := B6.grown hgrow7 B6.size (fun g hg => by simp [Value.ownBlock] at hg; subst hg; exact hg6)
 have hv7 : v7 ≠ .slice none 0 0 := fun e => by have := (hnil7.1 e).1; simp at this
 have hl : (p.take k ++ -1 :: p.drop (k + m)).length = k + 1 + (p.length - (k + m)) := by
   rw [List.length_append, List.length_cons, List.length_take, List.length_drop]; omega
 have hown7 : w7.ownsRow w.heap.size 3 1 v7 (k + 1 + (p.length - (k + m))) (valI (p.take k ++ -1 :: p.drop (k + m))) := by
   have e : valI (p.take k ++ -1 :: p.drop (k + m)) = valI (p.take k) ++ [.int .i64 (-1)] ++ valI (p.drop (k + m)) := by simp [valI]
   rw [e]; exact hown7
 obtain ⟨g7, cap7, rfl, hL, _⟩ := row_list hown7 hl hv7
 exact ⟨⟨k, x, m, hx, hpx, hm, _, _, rfl, hL⟩, B7⟩
end
end Go.EvPart
namespace Go.EvPart
open Go Go.Proofs Go.RowKit Go.EvNil
def RetB (e : Ending) : Prop := ∃ r : Bool, e = .returned (.bool r)
attribute [local irreducible] wpStill in
theorem less_any (pa qa : Option Addr) (pc qc : Nat) (p q : List Int) (w : World) (hp : ListAt w pa p) (hq : ListAt w qa q) (hpn : p.length <= 100) (hqn : q.length <= 100) :
   Calls Tryz.prog 46 #[.slice pa p.length pc, .slice qa q.length qc] w fun e w' => RetB e /\ Below w.heap.size w w' := by
 by_cases hl : p.length = q.length
 · have e0 : ((p.length : Int) != (q.length : Int)) = false := by simp [hl]
   have hl' : (q.length : Int) = (p.length : Int) := by omega
   have HP := Lib.hid (fun W (hW : Below w.heap.size w W) => hp.below hW)
   have HQ := Lib.hid (fun W (hW : Below w.heap.size w W) => hq.below hW)
   have HL := Lib.hid hl
   clear hp hq hl hl'
   go_enter Tryz.func46, Tryz.ntmps46
   go_wp2
   go_loopw [5] (fun v wr => ∃ k : Nat, k <= p.length /\ v = .int .i64 k /\ Below w.heap.size w wr) (fun v _ => p.length - (intOf v).toNat)
   case atStart => exact ⟨0, Nat.zero_le _, rfl, Below.refl _ _⟩
   case round =>
     obtain ⟨k, hk, rfl, hb⟩ := hrel
     by_cases hlt : k < p.length
     · have hB := hb.drew
       obtain ⟨ab, ao, rfl, hab, hac⟩ := HP.out _ hB (by omega)
       obtain ⟨bb, bo, rfl, hbb, hbc⟩ := HQ.out _ hB (by have := HL.out; omega)
       have ca := hac k hlt
       have cb := hbc k (by have := HL.out; omega)
       have i1 : (0 : Int) <= (k : Int) := by omega
       have i2 : (k : Int) < (p.length : Int) := by omega
       have i3 : (k : Int) < (q.length : Int) := by have := HL.out; omega
       have lab : ab < wr.heap.size := hab
       have lbb : bb < wr.heap.size := hbb
       generalize hx : p[k] = x at ca
       generalize q[k]'(by have := HL.out; omega) = y at cb
       clear hac hbc hx
       go_wp2
       refine wp_region_still_lit (by kernel_rfl) (by kernel_rfl) ?_
       change wpStill _ _ wr.drew (fun a' => Exit.then _ _ Exit.normal a' wr.drew) _ _
       generalize wr.drew = w1 at *
       by_cases hxy : x = y
       · subst hxy
         have e1 : (x != x) = false := by simp
         repeat still_step
         refine wpStill_nil ?_
         go_wp2
         go_roundw
         case rel => first | exact ⟨k + 1, by omega, by go_num, hB⟩ | ((repeat apply Exists.intro); refine ⟨?_, rfl⟩; exact ⟨k + 1, by omega, by go_num, hB⟩)
         case measure => simp [intOf]; omega
       · have e1 : (x != y) = true := by simpa using hxy
         repeat still_step
         refine wpStill_nil ?_
         go_wp2
         have hB2 := hB.drew
         have ca2 : w1.drew.cell? ⟨ab, ao + k, none⟩ = _ := ca
         have cb2 : w1.drew.cell? ⟨bb, bo + k, none⟩ = _ := cb
         refine wp_region_still_lit (by kernel_rfl) (by kernel_rfl) ?_
         change wpStill _ _ w1.drew (fun a' => Exit.then _ _ Exit.normal a' w1.drew) _ _
         clear ca cb
         generalize w1.drew = w2 at *
         repeat still_step
         refine wpStill_nil ?_
         go_wp2
         go_ret
         exact ⟨⟨_, rfl⟩, hB2⟩
     · have i2 : ¬ (k : Int) < (p.length : Int) := by omega
       go_wp2
       go_ret
       exact ⟨⟨_, rfl⟩, hb⟩
 · have e0 : ((p.length : Int) != (q.length : Int)) = true := by simp; omega
   clear hp hq
   go_enter Tryz.func46, Tryz.ntmps46
   go_wp2
   go_ret
   exact ⟨⟨_, rfl⟩, Below.refl _ _⟩
end Go.EvPart
namespace Go.EvPart
open Go Go.Proofs Go.RowKit Go.EvNil
def KeepI (w w' : World) : Prop := ∀ (b : Nat) (arr : Array Value) (fz : Nat × Nat), w.heap[b]? = some (Obj.cells arr 3 fz) -> w'.heap[b]? = some (Obj.cells arr 3 fz)
def ListT (w : World) (qa : Option Addr) (q : List Int) : Prop := 0 < q.length -> ∃ b o arr fz, qa = some ⟨b, o, none⟩ /\ w.heap[b]? = some (.cells arr 3 fz) /\ ∀ i (hi : i < q.length), arr[o + i]? = some (.int .i64 q[i])
theorem ListT.at' {w : World} {qa : Option Addr} {q : List Int} (h : ListT w qa q) : ListAt w qa q := fun h0 => by
 obtain ⟨b, o, arr, fz, e, hl, hc⟩ := h h0
 exact ⟨b, o, e, heap_lt' hl, fun i hi => by simp only [World.cell?, hl]; exact hc i hi⟩
theorem ListT.kept {w w' : World} {qa : Option Addr} {q : List Int} (h : ListT w qa q) (hk : KeepI w w') : ListT w' qa q := fun h0 => by
 obtain ⟨b, o, arr, fz, e, hl, hc⟩ := h h0
 exact ⟨b, o, arr, fz, e, hk _ _ _ hl, hc⟩
theorem ListT.below {w w' : World} {qa : Option Addr} {q : List Int} (h : ListT w qa q) (hb : Below w.heap.size w w') : ListT w' qa q :=
 h.kept fun b arr fz hl => by rw [hb.block b (heap_lt' hl)]; exact hl
def IsPr (T : List Int -> Prop) (w : World) (v : Value) : Prop := ∃ qa qc q, v = .slice qa (q : List Int).length qc /\ ListT w qa q /\ T q
theorem IsPr.below {T : List Int -> Prop} {w w' : World} {v : Value} (h : IsPr T w v) (hb : Below w.heap.size w w') : IsPr T w' v := by
 obtain ⟨qa, qc, q, e, h1, h2⟩ := h
 exact ⟨qa, qc, q, e, h1.below hb, h2⟩
def Progs (T : List Int -> Prop) (w : World) (va : Option Addr) (n : Nat) : Prop := 0 < n -> ∃ b o, va = some ⟨b, o, none⟩ /\ b < w.heap.size /\ ∀ i, i < n -> ∃ v, w.cell? ⟨b, o + i, none⟩ = some v /\ IsPr T w v
theorem Progs.below {T : List Int -> Prop} {w w' : World} {va : Option Addr} {n : Nat} (h : Progs T w va n) (hb : Below w.heap.size w w') : Progs T w' va n := fun h0 => by
 obtain ⟨b, o, e, hl, hc⟩ := h h0
 refine ⟨b, o, e, Nat.lt_of_lt_of_le hl hb.size, fun i hi => ?_⟩
 obtain ⟨v, h1, h2⟩ := hc i hi
 exact ⟨v, by rw [hb.cell hl]; exact h1, h2.below hb⟩
theorem infoP : (Tryz.prog.info? 22).map (fun i => (i.zero, i.size, i.bytes)) = some (some (.slice none 0 0), 1, 24) := by kernel_rfl
def RetPs (T : List Int -> Prop) (n : Nat) (e : Ending) (w' : World) : Prop := ∃ rv rc, e = .returned (.slice rv n rc) /\ n <= rc /\ Progs T w' rv n
theorem progs_of_own {T : List Int -> Prop} {w : World} {base : Nat} {v : Value} {n : Nat} {ys : List Value} (h : w.ownsRow base 22 1 v n ys) (hn : 0 < n) (hl : ys.length = n) (hy : ∀ y ∈ ys, IsPr T w y) : ∃ rv rc, v = .slice rv n rc /\ n <= rc /\ Progs T w rv n := by
 have h0 : v ≠ .slice none 0 0 := fun e => by
   rcases h.2 with ⟨_, h5⟩ | ⟨g, cap, cur, e1, _⟩
   · omega
   · rw [e1] at e; cases e
 obtain ⟨g, cap, cur, e1, e2, e3, e4, e5, e6⟩ := own_cells h h0
 refine ⟨_, _, e1, e4, fun _ => ⟨g, 0, rfl, heap_lt' e3, fun i hi => ?_⟩⟩
 have := e6 i (by omega)
 rw [List.getElem?_eq_getElem (by omega)] at this
 exact ⟨_, by rw [Nat.zero_add]; exact cellOf e3 this, hy _ (List.getElem_mem _)⟩
end Go.EvPart
namespace Go.EvPart
open Go.EvNil (Rl)
def lists (L : Nat -> Nat -> List (List Int)) (Z : Nat -> Nat) : List Int -> List Nat -> Nat -> List (List Int)
 | b, [], m => if m = 0 then [b] else []
 | b, a :: ys, m => (List.range' 1 (min (m - ys.length) (Z a - 1))).flatMap fun n => (L a n).flatMap fun q => lists L Z (b ++ q) ys (m - n)
theorem lists_congr {L L' : Nat -> Nat -> List (List Int)} {Z : Nat -> Nat} : ∀ (ys : List Nat) (b : List Int) (m : Nat), (∀ a ∈ ys, ∀ i, i <= m -> i < Z a -> L a i = L' a i) -> lists L Z b ys m = lists L' Z b ys m
 | [], b, m, h => rfl
 | a :: ys, b, m, h => by
   unfold lists
   simp only [List.flatMap_def]
   congr 1
   apply List.map_congr_left
   intro n hn
   obtain ⟨h1, h2⟩ := List.mem_range'_1.1 hn
   rw [h a (List.mem_cons_self ..) n (by omega) (by omega)]
   congr 1
   apply List.map_congr_left
   intro q _
   exact lists_congr ys _ _ fun a' ha' i hi hz => h a' (List.mem_cons_of_mem _ ha') i (by omega) hz
def TabP (rs : List Rl) (M : Nat -> Nat) (L : Nat -> Nat -> List (List Int)) : Prop := ∀ s n, ∀ p ∈ L s n, Prg rs M s n p
theorem lists_mem {rs : List Rl} {M : Nat -> Nat} {L : Nat -> Nat -> List (List Int)} {Z : Nat -> Nat} (hL : TabP rs M L) : ∀ (ys : List Nat) (b : List Int) (m : Nat), ∀ x ∈ lists L Z b ys m, ∃ q, x = b ++ q /\ q.length = m /\ eat rs ys q = some m /\ Sub rs M q
 | [], b, m, x, h => by
   unfold lists at h
   split at h
   · rename_i hm
     simp at h
     exact ⟨[], by simp [h], by simp [hm], by rw [eat_nil, hm], Sub.nil _ _⟩
   · cases h
 | a :: ys, b, m, x, h => by
   unfold lists at h
   obtain ⟨n, hn, h⟩ := List.mem_flatMap.1 h
   obtain ⟨q, hq, h⟩ := List.mem_flatMap.1 h
   obtain ⟨h1, h2⟩ := List.mem_range'_1.1 hn
   obtain ⟨q', rfl, l1, l2, l3⟩ := lists_mem hL ys _ _ x h
   have P := hL a n q hq
   have hle : n <= m := by omega
   refine ⟨q ++ q', by rw [List.append_assoc], by rw [List.length_append, P.len, l1]; omega, ?_, P.sub.app l3⟩
   rw [show a :: ys = [a] ++ ys from rfl, eat_app, eat_ext rs q _ _ q' P.eat]
   simp only [Option.bind_some]
   rw [← P.len, List.drop_left, l2]
   simp only [Option.map_some, Option.some.injEq]
   rw [P.len]; omega
theorem lists_one {L : Nat -> Nat -> List (List Int)} {Z : Nat -> Nat} {b : List Int} {a : Nat} (h : L a 1 ≠ []) (hz : 1 < Z a) : lists L Z b [a] 1 ≠ [] := by
 have e : min (1 - ([] : List Nat).length) (Z a - 1) = 1 := by simp; omega
 unfold lists
 rw [e]
 cases hl : L a 1 with
 | nil => exact absurd hl h
 | cons q l => simp [hl, lists]
def TabN (K : Nat) (L : Nat -> Nat -> List (List Int)) : Prop := ∀ s n, (L s n).length <= K ^ n
theorem flat_le {α β : Type} (f : α -> List β) (c : Nat) : ∀ l : List α, (∀ a ∈ l, (f a).length <= c) -> (l.flatMap f).length <= l.length * c
 | [], _ => by simp
 | a :: l, h => by
   rw [List.flatMap_cons, List.length_append, List.length_cons, Nat.add_mul]
   have := flat_le f c l fun a' ha' => h a' (List.mem_cons_of_mem _ ha')
   have := h a (List.mem_cons_self ..)
   omega
theorem lists_len {K : Nat} {L : Nat -> Nat -> List (List Int)} {Z : Nat -> Nat} (hK : 1 <= K) (hL : TabN K L) : ∀ (ys : List Nat) (b : List Int) (m : Nat), (lists L Z b ys m).length <= 2 ^ m * K ^ m
 | [], b, m => by
   unfold lists
   split
   · rename_i h; subst h; simp
   · simp
 | a :: ys, b, m => by
   unfold lists
   have step : ∀ c, c <= m -> ((List.range' 1 c).flatMap fun n => (L a n).flatMap fun q => lists L Z (b ++ q) ys (m - n)).length <= (2 ^ m - 2 ^ (m - c)) * K ^ m := by
     intro c
     induction c with
     | zero => intro _; simp
     | succ c ih =>
       intro hc
       rw [List.range'_1_concat, List.flatMap_append, List.length_append, List.flatMap_cons, List.flatMap_nil, List.append_nil]
       have h1 := ih (by omega)
       have h2 := flat_le (fun q => lists L Z (b ++ q) ys (m - (1 + c))) (2 ^ (m - (1 + c)) * K ^ (m - (1 + c))) (L a (1 + c)) fun q _ => lists_len hK hL ys _ _
       have h3 := hL a (1 + c)
       have h4 : (L a (1 + c)).length * (2 ^ (m - (1 + c)) * K ^ (m - (1 + c))) <= 2 ^ (m - (1 + c)) * K ^ m := by
         calc (L a (1 + c)).length * (2 ^ (m - (1 + c)) * K ^ (m - (1 + c))) <= K ^ (1 + c) * (2 ^ (m - (1 + c)) * K ^ (m - (1 + c))) := Nat.mul_le_mul_right _ h3
           _ = 2 ^ (m - (1 + c)) * (K ^ (1 + c) * K ^ (m - (1 + c))) := by rw [← Nat.mul_assoc, Nat.mul_comm (K ^ (1 + c)), Nat.mul_assoc]
           _ = 2 ^ (m - (1 + c)) * K ^ m := by rw [← Nat.pow_add, show 1 + c + (m - (1 + c)) = m by omega]
       have h5 : 2 ^ (m - c) = 2 ^ (m - (1 + c)) + 2 ^ (m - (1 + c)) := by rw [show m - c = (m - (1 + c)) + 1 by omega, Nat.pow_succ]; omega
       have h6 : 2 ^ (m - c) <= 2 ^ m := Nat.pow_le_pow_right (by omega) (by omega)
       have h7 : 2 ^ m - 2 ^ (m - (c + 1)) = (2 ^ m - 2 ^ (m - c)) + 2 ^ (m - (1 + c)) := by
         rw [show m - (c + 1) = m - (1 + c) by omega]
         generalize 2 ^ (m - (1 + c)) = x at *
         generalize 2 ^ (m - c) = y at *
         generalize 2 ^ m = z at *
         omega
       rw [h7, Nat.add_mul]
       omega
   have := step (min (m - ys.length) (Z a - 1)) (by omega)
   refine Nat.le_trans this ?_
   exact Nat.mul_le_mul_right _ (Nat.sub_le _ _)
def node (L : Nat -> Nat -> List (List Int)) (Z need : Nat -> Nat) (n s : Nat) (e : Rl × Nat) : List (List Int) :=
 if e.1.h = s /\ n + 1 < Z s /\ n + 1 <= need s then lists L Z [(e.2 : Int)] e.1.args n else []
def tab (rs : List Rl) (Z need : Nat -> Nat) : Nat -> Nat -> Nat -> List (List Int)
 | 0, _, _ => []
 | n + 1, s, m => if m = n + 1 then rs.zipIdx.flatMap (node (tab rs Z need n) Z need n s) else tab rs Z need n s m
def part (rs : List Rl) (Z need : Nat -> Nat) (n k : Nat) (s m : Nat) : List (List Int) :=
 if m = n + 1 then (rs.zipIdx.take k).flatMap (node (tab rs Z need n) Z need n s) else tab rs Z need n s m
theorem tab_above (rs : List Rl) (Z need : Nat -> Nat) : ∀ n s m, n < m -> tab rs Z need n s m = []
 | 0, s, m, h => rfl
 | n + 1, s, m, h => by
   unfold tab
   rw [if_neg (by omega), tab_above rs Z need n s m (by omega)]
theorem part_start (rs : List Rl) (Z need : Nat -> Nat) (n s m : Nat) : part rs Z need n 0 s m = tab rs Z need n s m := by
 unfold part
 split
 · rename_i h; rw [tab_above _ _ _ _ _ _ (by omega)]; simp
 · rfl
theorem part_end (rs : List Rl) (Z need : Nat -> Nat) (n s m : Nat) : part rs Z need n rs.length s m = tab rs Z need (n + 1) s m := by
 have e : rs.zipIdx.take rs.length = rs.zipIdx := List.take_of_length_le (by simp)
 unfold part
 rw [e]
 rfl
theorem part_step (rs : List Rl) (Z need : Nat -> Nat) (n k s m : Nat) (hk : k < rs.length) : part rs Z need n (k + 1) s m = part rs Z need n k s m ++ (if m = n + 1 then node (tab rs Z need n) Z need n s (rs[k], k) else []) := by
 unfold part
 split
 · have hz : k < rs.zipIdx.length := by simpa using hk
   rw [List.take_succ_eq_append_getElem hz, List.flatMap_append, List.flatMap_cons, List.flatMap_nil, List.append_nil, List.getElem_zipIdx, Nat.zero_add]
 · rw [List.append_nil]
theorem lists_part (rs : List Rl) (Z need : Nat -> Nat) (n k : Nat) (b : List Int) (ys : List Nat) : lists (part rs Z need n k) Z b ys n = lists (tab rs Z need n) Z b ys n := by
 apply lists_congr
 intro a _ i hi _
 unfold part
 rw [if_neg (by omega)]
theorem tab_prg {rs : List Rl} {M Z need : Nat -> Nat} (hZ : ∀ s, Z s <= M s + 1) : ∀ n, TabP rs M (tab rs Z need n)
 | 0 => fun s m p h => by cases h
 | n + 1 => fun s m p h => by
   unfold tab at h
   split at h
   · rename_i hm
     subst hm
     obtain ⟨⟨r, k⟩, hr, h⟩ := List.mem_flatMap.1 h
     have hz := List.mem_zipIdx_iff_getElem?.1 hr
     obtain ⟨hk, e⟩ := List.getElem?_eq_some_iff.1 hz
     simp only at e hk
     subst e
     unfold node at h
     split at h
     · rename_i hc
       obtain ⟨h1, h2, h3⟩ := hc
       obtain ⟨q, rfl, l1, l2, l3⟩ := lists_mem (tab_prg hZ n) _ _ _ p h
       have hM := hZ s
       simp only at h1
       refine ⟨by simp; omega, ?_, Sub.cons hk l3 l2 (by rw [h1]; omega), by omega⟩
       show eat rs [s] ((k : Int) :: q) = _
       rw [eat_rule rs s [] q k hk h1, List.append_nil, l2]
       rfl
     · cases h
   · exact tab_prg hZ n s m p h
theorem tab_len {rs : List Rl} {Z need : Nat -> Nat} (hr : rs.length <= 9) : ∀ n, n <= 5 -> TabN 144 (tab rs Z need n)
 | 0, _ => fun s m => by simp [tab]
 | n + 1, hn => fun s m => by
   unfold tab
   split
   · rename_i hm
     subst hm
     have h1 := flat_le (node (tab rs Z need n) Z need n s) (2 ^ n * 144 ^ n) rs.zipIdx fun e _ => by
       unfold node
       split
       · exact lists_len (by omega) (tab_len hr n (by omega)) _ _ _
       · simp
     rw [List.length_zipIdx] at h1
     refine Nat.le_trans h1 ?_
     have h2 : (2 : Nat) ^ n <= 2 ^ 4 := Nat.pow_le_pow_right (by omega) (by omega)
     calc rs.length * (2 ^ n * 144 ^ n) <= 9 * (2 ^ 4 * 144 ^ n) := Nat.mul_le_mul hr (Nat.mul_le_mul_right _ h2)
       _ = 144 ^ (n + 1) := by rw [Nat.pow_succ]; omega
   · exact tab_len hr n (by omega) s m
theorem part_len {rs : List Rl} {Z need : Nat -> Nat} (hr : rs.length <= 9) (n k : Nat) (hn : n < 5) : TabN 144 (part rs Z need n k) := fun s m => by
 unfold part
 split
 · rename_i hm
   subst hm
   have h1 := tab_len (Z := Z) (need := need) hr (n + 1) (by omega) s (n + 1)
   unfold tab at h1
   rw [if_pos rfl] at h1
   refine Nat.le_trans ?_ h1
   have e : rs.zipIdx = rs.zipIdx.take k ++ rs.zipIdx.drop k := (List.take_append_drop ..).symm
   conv => rhs; rw [e]
   rw [List.flatMap_append, List.length_append]
   omega
 · exact tab_len hr n (by omega) s m
theorem tab_leaf {rs : List Rl} {Z need : Nat -> Nat} {s k : Nat} (hk : k < rs.length) (hs : rs[k].h = s) (ha : rs[k].args = []) (hz : 1 < Z s) (hn : 1 <= need s) (n : Nat) (h1 : 1 <= n) : tab rs Z need n s 1 ≠ [] := by
 induction n with
 | zero => omega
 | succ n ih =>
   unfold tab
   by_cases e : (1 : Nat) = n + 1
   · rw [if_pos e]
     obtain rfl : n = 0 := by omega
     intro hf
     have hm : (rs[k], k) ∈ rs.zipIdx := List.mem_zipIdx_iff_getElem?.2 (by simp [hk])
     have := List.flatMap_eq_nil_iff.1 hf _ hm
     unfold node at this
     rw [if_pos ⟨hs, hz, hn⟩, ha] at this
     simp [lists] at this
   · rw [if_neg e]
     exact ih (by omega)
theorem tab_over {rs : List Rl} {Z need : Nat -> Nat} {s a k j : Nat} (hk : k < rs.length) (hs : rs[k].h = s) (ha : rs[k].args = [a]) (hj : j < rs.length) (hjs : rs[j].h = a) (hja : rs[j].args = []) (hz : 2 < Z s) (hn : 2 <= need s) (hza : 1 < Z a) (hna : 1 <= need a) : tab rs Z need 2 s 2 ≠ [] := by
 have hl := tab_leaf (Z := Z) (need := need) hj hjs hja hza hna 1 (by omega)
 show (if 2 = 1 + 1 then rs.zipIdx.flatMap (node (tab rs Z need 1) Z need 1 s) else tab rs Z need 1 s 2) ≠ []
 rw [if_pos rfl]
 intro hf
 have hm : (rs[k], k) ∈ rs.zipIdx := List.mem_zipIdx_iff_getElem?.2 (by simp [hk])
 have := List.flatMap_eq_nil_iff.1 hf _ hm
 unfold node at this
 rw [if_pos ⟨hs, hz, hn⟩, ha] at this
 exact lists_one hl hza this
end Go.EvPart
