/- ItemPartials, one part of the proof: PartW25. -/
import Derived.Test.YtljoobbnhbaklaaGreatDoorP10
import Derived.Test.YtljoobbnhbaklaaGreatDoorP16
import Derived.Test.YtljoobbnhbaklaaGreatDoorP00
import Derived.Test.YtljoobbnhbaklaaGreatDoorP17
set_option linter.all false
set_option maxRecDepth 100000
set_option maxHeartbeats 16000000
namespace Go.EvPart.N
open Go Go.Proofs Go.RowKit Go.EvNil
theorem sm_rules (n : Nat) : 6 <= (sm n).rules.length := by
 unfold sm
 split
 · decide
 split
 · decide
 split
 · decide
 split
 · decide
 split
 · decide
 · decide
theorem copy_nx (S : Sample) (hS : SOk S) (w : World) (M : Nat -> Nat) (rs : List Rl) (hr0 : 0 < rs.length) (hsub : rs.Sublist S.rules) (ca sa ra : Option Addr) (cc sc rc : Nat) (hC : ColsAt w ca S.cols) (hY : SymsT w sa S.syms M) (hR : RulesT w ra rs) :
   Calls Tryz.prog 15 #[.agg #[.string S.nm, .int .i64 S.ver, .slice ca S.cols.length cc, .slice sa S.syms.length sc, .slice ra rs.length rc, .int .i64 S.st]] w fun e w' => (∃ ca' cc' sg scap rg rcap, e = .returned (.agg #[.string S.nm, .int .i64 S.ver, .slice ca' S.cols.length cc', .slice (some ⟨sg, 0, none⟩) S.syms.length scap, .slice (some ⟨rg, 0, none⟩) rs.length rcap, .int .i64 S.st]) /\ Nx S M rs w.heap.size w' ca' cc' sg scap rg rcap) /\ Below w.heap.size w w' :=
 (copy_any S hS w M rs (Nat.le_trans hsub.length_le hS.rules) (fun r hr => (hS.rule r (hsub.subset hr)).2.1) ca sa ra cc sc rc hC hY.at hR.at).mono fun e w' ⟨⟨cv, sv, rv, es, he, hC⟩, hb⟩ => ⟨by
   obtain ⟨ca, cc, sg, scap, rg, rcap, rfl, rfl, rfl, hN⟩ := hC.nx hS hr0
   exact ⟨ca, cc, sg, scap, rg, rcap, he, hN⟩, hb⟩
structure MSt (w : World) (a : Option Addr) (n gb : Nat) (F : Array Value) (wr : World) : Prop where
 b : Below w.heap.size w wr
 q : wr.heap[w.heap.size]? = some (.cells #[.string ⟨#[]⟩, .int .i64 0, .slice none 0 0, .slice none 0 0, .slice none 0 0, .int .i64 0] 29 (0, 0))
 m : ∃ c K : Nat, wr.heap[w.heap.size + 1]? = some (.cells #[.slice a n c, .int .i64 K] 49 (0, 0))
 g : wr.heap[gb]? = some (.cells F 29 (0, 0))
 gg : w.heap.size + 2 <= gb
section
variable {w wr w' : World} {a : Option Addr} {n gb : Nat} {F : Array Value}
theorem MSt.below (h : MSt w a n gb F wr) (hb : Below wr.heap.size wr w') : MSt w a n gb F w' := by
 obtain ⟨c, K, hm⟩ := h.m
 exact ⟨h.b.trans (hb.mono h.b.size), by rw [hb.block _ (heap_lt' h.q)]; exact h.q, ⟨c, K, by rw [hb.block _ (heap_lt' hm)]; exact hm⟩, by rw [hb.block _ (heap_lt' h.g)]; exact h.g, h.gg⟩
theorem MSt.num (h : MSt w a n gb F wr) (hl : Nums w a n) (hz : ∀ q, a = some q -> q.block < w.heap.size) : Num wr (w.heap.size + 1) a n := by
 obtain ⟨c, K, hm⟩ := h.m
 refine ⟨c, K, hm, ?_, fun q hq e => ?_⟩
 · rcases hl with hl | ⟨b, o, rfl, hc⟩
   · exact .inl hl
   · exact .inr ⟨b, o, rfl, fun i hi => by obtain ⟨x, hx⟩ := hc i hi; have hbl : b < w.heap.size := hz _ rfl; exact ⟨x, by rw [h.b.cell hbl]; exact hx⟩⟩
 · have := hz q hq; omega
theorem MSt.next (h : MSt w a n gb F wr) {N : Int} {e : Ending} (hx : Nexts wr (w.heap.size + 1) a n N e w') : MSt w a n gb F w' /\ KeepT wr w' := by
 obtain ⟨c0, K0, hm0⟩ := h.m
 refine ⟨?_, KeepT.next hm0 hx⟩
 obtain ⟨_, ⟨c, K, hm, _⟩, hz, hk, ho, ht, hp⟩ := hx
 have := h.gg
 exact ⟨⟨ho.trans h.b.os, ht.trans h.b.tape, hp.trans h.b.output, by rw [hz]; exact h.b.size, fun k hk' => by rw [hk _ (by omega)]; exact h.b.block k hk'⟩, by rw [hk _ (by omega)]; exact h.q, ⟨c, K, hm⟩, by rw [hk _ (by omega)]; exact h.g, h.gg⟩
end
structure MS0 (w : World) (a : Option Addr) (n : Nat) (wr : World) : Prop where
 b : Below w.heap.size w wr
 q : wr.heap[w.heap.size]? = some (.cells #[.string ⟨#[]⟩, .int .i64 0, .slice none 0 0, .slice none 0 0, .slice none 0 0, .int .i64 0] 29 (0, 0))
 m : ∃ c K : Nat, wr.heap[w.heap.size + 1]? = some (.cells #[.slice a n c, .int .i64 K] 49 (0, 0))
theorem MS0.below {w wr w' : World} {a : Option Addr} {n : Nat} (h : MS0 w a n wr) (hb : Below wr.heap.size wr w') : MS0 w a n w' := by
 obtain ⟨c, K, hm⟩ := h.m
 exact ⟨h.b.trans (hb.mono h.b.size), by rw [hb.block _ (heap_lt' h.q)]; exact h.q, ⟨c, K, by rw [hb.block _ (heap_lt' hm)]; exact hm⟩⟩
theorem MS0.next {w wr w' : World} {a : Option Addr} {n : Nat} (h : MS0 w a n wr) {N : Int} {e : Ending} (hx : Nexts wr (w.heap.size + 1) a n N e w') : MS0 w a n w' := by
 obtain ⟨_, ⟨c, K, hm, _⟩, hz, hk, ho, ht, hp⟩ := hx
 exact ⟨⟨ho.trans h.b.os, ht.trans h.b.tape, hp.trans h.b.output, by rw [hz]; exact h.b.size, fun k hk' => by rw [hk _ (by omega)]; exact h.b.block k hk'⟩, by rw [hk _ (by omega)]; exact h.q, ⟨c, K, hm⟩⟩
theorem MS0.to {w wr : World} {a : Option Addr} {n : Nat} (h : MS0 w a n wr) (F : Array Value) : MSt w a n wr.heap.size F (wr.alloc (.cells F 29)) := by
 have h1 := h.below ((Below.refl _ _).alloc (Nat.le_refl _) (.cells F 29))
 obtain ⟨c, K, hm⟩ := h.m
 have := heap_lt' hm
 exact ⟨h1.b, h1.q, h1.m, heapNew _ _, by omega⟩
def Z28 : Array Value := #[.string ⟨#[]⟩, .int .i64 0, .slice none 0 0, .slice none 0 0, .slice none 0 0, .int .i64 0]
def MG (S : Sample) (w : World) (a : Option Addr) (n gb k : Nat) (wr : World) : Prop :=
 ∃ F M rs, MSt w a n gb F wr /\ GramT S M rs wr F /\ (∀ i, 1 <= M i /\ M i <= 5) /\ rs.Sublist S.rules /\ S.rules.length <= rs.length + k /\ Starts rs M S.st
def NG (S : Sample) (k nb : Nat) (w2 wx : World) : Prop :=
 Below w2.heap.size w2 wx /\ ∃ (M : Nat -> Nat) (rs : List Rl) (ca : Option Addr) (cc sg scap rg rcap : Nat), wx.heap[nb]? = some (.cells #[.string S.nm, .int .i64 S.ver, .slice ca S.cols.length cc, .slice (some ⟨sg, 0, none⟩) S.syms.length scap, .slice (some ⟨rg, 0, none⟩) rs.length rcap, .int .i64 S.st] 29 (0, 0)) /\ Nx S M rs w2.heap.size wx ca cc sg scap rg rcap /\ (∀ i, 1 <= M i /\ M i <= 5) /\ rs.Sublist S.rules /\ S.rules.length <= rs.length + (k + 1)
def RetMade (w' : World) (e : Ending) : Prop := ∃ (s : Nat) (M : Nat -> Nat) (rs : List Rl) (F : Array Value), e = .returned (.agg F) /\ GramT (sm s) M rs w' F /\ (∀ i, 1 <= M i /\ M i <= 5) /\ rs.Sublist (sm s).rules /\ 0 < rs.length /\ Starts rs M (sm s).st
theorem NG.drew {S : Sample} {k nb : Nat} {w2 W : World} (h : NG S k nb w2 W) : NG S k nb w2 W.drew := by
 obtain ⟨h1, M, rs, ca, cc, sg, scap, rg, rcap, h2, h3, h4⟩ := h
 exact ⟨h1.drew, M, rs, ca, cc, sg, scap, rg, rcap, h2, h3.keep (KeepT.below ((Below.refl W.heap.size W).drew)), h4⟩
theorem keep_six {w : World} {b : Nat} {z0 z1 z2 z3 z4 z5 : Value} (hb : w.heap[b]? = some (.cells #[z0, z1, z2, z3, z4, z5] 29 (0, 0))) (a0 a1 a2 a3 a4 a5 : Value) :
   KeepT w ((((((w.setCell ⟨b, 0, none⟩ a0).setCell ⟨b, 1, none⟩ a1).setCell ⟨b, 2, none⟩ a2).setCell ⟨b, 3, none⟩ a3).setCell ⟨b, 4, none⟩ a4).setCell ⟨b, 5, none⟩ a5) /\ ((((((w.setCell ⟨b, 0, none⟩ a0).setCell ⟨b, 1, none⟩ a1).setCell ⟨b, 2, none⟩ a2).setCell ⟨b, 3, none⟩ a3).setCell ⟨b, 4, none⟩ a4).setCell ⟨b, 5, none⟩ a5).heap[b]? = some (.cells #[a0, a1, a2, a3, a4, a5] 29 (0, 0)) := by
 have b1 := Joins.block_setCell (i := 0) hb a0
 have b2 := Joins.block_setCell (i := 1) b1 a1
 have b3 := Joins.block_setCell (i := 2) b2 a2
 have b4 := Joins.block_setCell (i := 3) b3 a3
 have b5 := Joins.block_setCell (i := 4) b4 a4
 have b6 := Joins.block_setCell (i := 5) b5 a5
 have ht : ¬ Tg 29 := by unfold Tg; decide
 exact ⟨(((((KeepT.set hb ht 0 a0).trans (KeepT.set b1 ht 1 a1)).trans (KeepT.set b2 ht 2 a2)).trans (KeepT.set b3 ht 3 a3)).trans (KeepT.set b4 ht 4 a4)).trans (KeepT.set b5 ht 5 a5), b6⟩
theorem heap_six {w : World} {b x : Nat} (hx : x ≠ b) (a0 a1 a2 a3 a4 a5 : Value) : ((((((w.setCell ⟨b, 0, none⟩ a0).setCell ⟨b, 1, none⟩ a1).setCell ⟨b, 2, none⟩ a2).setCell ⟨b, 3, none⟩ a3).setCell ⟨b, 4, none⟩ a4).setCell ⟨b, 5, none⟩ a5).heap[x]? = w.heap[x]? := by
 rw [Below.heap_setCell _ _ _ _ hx, Below.heap_setCell _ _ _ _ hx, Below.heap_setCell _ _ _ _ hx, Below.heap_setCell _ _ _ _ hx, Below.heap_setCell _ _ _ _ hx, Below.heap_setCell _ _ _ _ hx]
theorem mg_six {S : Sample} {w w7 : World} {a : Option Addr} {n gb k : Nat} {z0 z1 z2 z3 z4 z5 a0 a1 a2 a3 a4 a5 : Value} (h : MSt w a n gb #[z0, z1, z2, z3, z4, z5] w7) {M : Nat -> Nat} {rs : List Rl} (hG : GramT S M rs w7 #[a0, a1, a2, a3, a4, a5]) (hMb : ∀ i, 1 <= M i /\ M i <= 5) (hsub : rs.Sublist S.rules) (hlen : S.rules.length <= rs.length + k) (hSt : Starts rs M S.st) :
   MG S w a n gb k ((((((w7.setCell ⟨gb, 0, none⟩ a0).setCell ⟨gb, 1, none⟩ a1).setCell ⟨gb, 2, none⟩ a2).setCell ⟨gb, 3, none⟩ a3).setCell ⟨gb, 4, none⟩ a4).setCell ⟨gb, 5, none⟩ a5) := by
 obtain ⟨hk, hb⟩ := keep_six h.g a0 a1 a2 a3 a4 a5
 obtain ⟨c, K, hm⟩ := h.m
 have hgg := h.gg
 exact ⟨_, M, rs, ⟨below_six h.b (by omega) a0 a1 a2 a3 a4 a5, by rw [heap_six (by omega)]; exact h.q, ⟨c, K, by rw [heap_six (by omega)]; exact hm⟩, hb, h.gg⟩, hG.keep hk, hMb, hsub, hlen, hSt⟩
theorem ng_erase {S : Sample} {k nb : Nat} {w2 W : World} {M : Nat -> Nat} {rs : List Rl} {ca : Option Addr} {cc sg scap rg rcap : Nat} (hB : Below w2.heap.size w2 W) (hnb : W.heap[nb]? = some (.cells #[.string S.nm, .int .i64 S.ver, .slice ca S.cols.length cc, .slice (some ⟨sg, 0, none⟩) S.syms.length scap, .slice (some ⟨rg, 0, none⟩) rs.length rcap, .int .i64 S.st] 29 (0, 0))) (hnbg : w2.heap.size <= nb) (hN : Nx S M rs w2.heap.size W ca cc sg scap rg rcap) {arr : Array Value} (ha : W.heap[rg]? = some (Obj.cells arr 76 (0, 0))) (hz : arr.size = rcap * 4) {t L : Nat} (ht : t < rs.length) (hL : L = rs.length - 1) (hMb : ∀ i, 1 <= M i /\ M i <= 5) (hsub : rs.Sublist S.rules) (hlen : S.rules.length <= rs.length + k) :
   NG S k nb w2 ((W.setCells rg (t * 4) (tailOf arr t rs.length)).setCell ⟨nb, 4, none⟩ (.slice (some ⟨rg, 0, none⟩) L rcap)) := by
 have hel : (rs.eraseIdx t).length = rs.length - 1 := by rw [List.length_eraseIdx, if_pos ht]
 have hne : nb ≠ rg := fun e => by rw [e, ha] at hnb; cases hnb
 have hnb' : (W.setCells rg (t * 4) (tailOf arr t rs.length)).heap[nb]? = some (.cells #[.string S.nm, .int .i64 S.ver, .slice ca S.cols.length cc, .slice (some ⟨sg, 0, none⟩) S.syms.length scap, .slice (some ⟨rg, 0, none⟩) rs.length rcap, .int .i64 S.st] 29 (0, 0)) := by
   rw [World.heap_setCells_other _ _ _ _ (heap_lt' hnb) hne]; exact hnb
 refine ⟨(below_setCells hN.rb _ _ hB).setCell hnbg _, M, rs.eraseIdx t, ca, cc, sg, scap, rg, rcap, ?_, (hN.erase ha hz t ht).keep (KeepT.set hnb' (by unfold Tg; decide) 4 _), hMb, (List.eraseIdx_sublist ..).trans hsub, by rw [hel]; omega⟩
 rw [hel, ← hL]
 exact Joins.block_setCell hnb' _
theorem ng_max {S : Sample} {k nb : Nat} {w2 W : World} {M : Nat -> Nat} {rs : List Rl} {ca : Option Addr} {cc sg scap rg rcap : Nat} (hB : Below w2.heap.size w2 W) (hnb : W.heap[nb]? = some (.cells #[.string S.nm, .int .i64 S.ver, .slice ca S.cols.length cc, .slice (some ⟨sg, 0, none⟩) S.syms.length scap, .slice (some ⟨rg, 0, none⟩) rs.length rcap, .int .i64 S.st] 29 (0, 0))) (hN : Nx S M rs w2.heap.size W ca cc sg scap rg rcap) {t : Nat} (ht : t < S.syms.length) {m : Nat} (hm : 1 <= m /\ m <= 5) (hMb : ∀ i, 1 <= M i /\ M i <= 5) (hsub : rs.Sublist S.rules) (hlen : S.rules.length <= rs.length + k) :
   NG S k nb w2 (W.setCell ⟨sg, t * 3 + 2, none⟩ (.int .i64 m)) := by
 obtain ⟨arr, hs⟩ := hN.s0
 have hne : nb ≠ sg := fun e => by rw [e, hs] at hnb; cases hnb
 refine ⟨hB.setCell hN.sb _, _, rs, ca, cc, sg, scap, rg, rcap, by rw [Below.heap_setCell _ _ _ _ hne]; exact hnb, hN.setMax t m ht, fun i => ?_, hsub, by omega⟩
 by_cases e : i = t
 · simp only [e, if_true]; exact hm
 · simp only [e, if_false]; exact hMb i
theorem spare {S : Sample} {M : Nat -> Nat} {rs : List Rl} {base : Nat} {w : World} {ca : Option Addr} {cc sg scap rg rcap : Nat} (h : Nx S M rs base w ca cc sg scap rg rcap) {arr : Array Value} (ha : w.heap[rg]? = some (Obj.cells arr 76 (0, 0))) (hz : arr.size = rcap * 4) {n : Nat} (hn : n < rs.length) : ∀ j, j < (tailOf arr n rs.length).length -> (w.cell? ⟨rg, 0 + n * 4 + j, none⟩).isSome = true /\ w.frozen? ⟨rg, 0 + n * 4 + j, none⟩ = false := fun j hj => by
 rw [tail_len h hz hn] at hj
 obtain ⟨u, hu, _⟩ := h.cell ha (n * 4 + j) (by omega)
 refine ⟨?_, by simp [World.frozen?, ha]⟩
 have hcw : w.cell? ⟨rg, 0 + n * 4 + j, none⟩ = some u := by rw [Nat.zero_add]; simp only [World.cell?, ha]; exact hu
 rw [hcw]; rfl
theorem made_any (w : World) (a : Option Addr) (n c : Nat) (hw : 13 <= w.heap.size) (hl : Nums w a n) (hz : ∀ q, a = some q -> q.block < w.heap.size) (hm : n <= maxLen) :
   Calls Tryz.prog 5 #[.slice a n c] w fun e w' => RetMade w' e /\ Below w.heap.size w w' := by
 obtain ⟨i112, hi112, hc0, hc1, hc2⟩ := info_parts info112
 go_enter Tryz.func5, Tryz.ntmps5
 go_upto_region 2 with fail
 have hM0 : MS0 w a n ((w.alloc (.cells Z28 29)).alloc (.cells #[.slice a n c, .int .i64 0] 49)) := by
   have z1 := sizeNew w (.cells Z28 29)
   refine ⟨(((Below.refl _ _).alloc (Nat.le_refl _) _).alloc (by simp) _), ?_, ⟨c, 0, ?_⟩⟩
   · rw [heapOld _ _ (by omega)]; exact heapNew _ _
   · rw [← z1]; exact heapNew _ _
 have hN0 : Num ((w.alloc (.cells Z28 29)).alloc (.cells #[.slice a n c, .int .i64 0] 49)) (w.heap.size + 1) a n := by
   have z1 := sizeNew w (.cells Z28 29)
   have hb : Below w.heap.size w ((w.alloc (.cells Z28 29)).alloc (.cells #[.slice a n c, .int .i64 0] 49)) := ((Below.refl _ _).alloc (Nat.le_refl _) _).alloc (by simp) _
   refine ⟨c, 0, by rw [← z1]; exact heapNew _ _, ?_, fun q hq e => ?_⟩
   · rcases hl with hl | ⟨b, o, rfl, hc⟩
     · exact .inl hl
     · exact .inr ⟨b, o, rfl, fun i hi => by obtain ⟨x, hx⟩ := hc i hi; have hbl : b < w.heap.size := hz _ rfl; exact ⟨x, by rw [hb.cell hbl]; exact hx⟩⟩
   · have := hz q hq; omega
 unfold Z28 at hM0 hN0
 have z0 : ((w.alloc (.cells #[.string ⟨#[]⟩, .int .i64 0, .slice none 0 0, .slice none 0 0, .slice none 0 0, .int .i64 0] 29)).alloc (.cells #[.slice a n c, .int .i64 0] 49)).heap.size = w.heap.size + 2 := by simp
 generalize ((w.alloc (.cells #[.string ⟨#[]⟩, .int .i64 0, .slice none 0 0, .slice none 0 0, .slice none 0 0, .int .i64 0] 29)).alloc (.cells #[.slice a n c, .int .i64 0] 49)) = w0 at hM0 hN0 z0 ⊢
 have HM0 := Lib.hid hM0
 have HN0 := Lib.hid hN0
 have HL := Lib.hid hl
 clear hM0 hN0 hl
 go_upto_block 0 with (first
   | (go_at_call 14; refine (next_any _ (w.heap.size + 1) a n 6 (by decide) (by decide) hm HN0.out).mono ?_; rintro e w3 hx3; have HM3 := Lib.hid (HM0.out.next hx3); obtain ⟨⟨r, hr0, hr6, rfl⟩, hx3⟩ := hx3; obtain ⟨s, rfl⟩ : ∃ s : Nat, r = (s : Int) := ⟨r.toNat, by omega⟩; have hs6 : s < 6 := (by omega); clear hx3)
   | (go_at_call 13; refine (sample_any s hs6 _).mono ?_; rintro e w4 ⟨rfl, hb4⟩)
   | (go_at_call 12; refine (parse_any s _).mono ?_; rintro e w5 ⟨⟨F, x, y, M, rfl, hMb, hG, h2M⟩, hb5⟩; obtain ⟨ca, cc, sa, sc, ra, rc, rfl, hCo, hSy, hRu, hCap⟩ := hG))
 have hMG : MG (sm s) w a n w5.heap.size 0 (w5.alloc (.cells #[.string (sm s).nm, .int .i64 (sm s).ver, .slice ca (sm s).cols.length cc, .slice sa (sm s).syms.length sc, .slice ra (sm s).rules.length rc, .int .i64 (sm s).st] 29)) :=
   ⟨_, M, (sm s).rules, ((HM3.out.below hb4).below hb5).to _, GramT.keep ⟨_, _, _, _, _, _, rfl, hCo, hSy, hRu, hCap⟩ (KeepT.below ((Below.refl _ _).alloc (Nat.le_refl _) _)), hMb, List.Sublist.refl _, Nat.le_refl _, sm_starts s M h2M⟩
 have hS := sm_ok s
 have hty := ty_all s
 have hNice := Lib.hid (sm_nice s)
 have hShape := Lib.hid (sm_shape s)
 have hr6 := sm_rules s
 clear hCo hSy hRu hb4 hb5 HM3 HM0 HN0 hMb z0 h2M hCap
 generalize (w5.alloc (.cells #[.string (sm s).nm, .int .i64 (sm s).ver, .slice ca (sm s).cols.length cc, .slice sa (sm s).syms.length sc, .slice ra (sm s).rules.length rc, .int .i64 (sm s).st] 29)) = wg at hMG ⊢
 generalize w5.heap.size = gb at hMG ⊢
 go_wp2_with fail
 go_loopw [7] (fun i wr => ∃ k : Nat, k <= 3 /\ i = .int .i64 k /\ MG (sm s) w a n gb k wr) (fun i _ => 3 - (RowKit.intOf i).toNat)
 case atStart => exact ⟨0, by omega, rfl, hMG⟩
 case round =>
   clear hMG
   obtain ⟨k, hk, rfl, F, M, rs, hMS, hG, hMb, hsub, hlen, hSt⟩ := hrel
   have HSt := Lib.hid hSt
   have HCP := Lib.hid hG
   clear hSt HCP
   have hG' := hG
   obtain ⟨ca, cc, sa, sc, ra, rc, rfl, hCo, hSy, hRu, hCap⟩ := hG'
   clear hCap
   by_cases hlt : k < 3
   · have j1 : (k : Int) < 3 := by omega
     have hr0 : 0 < rs.length := by omega
     have HMS := Lib.hid hMS
     have HG := Lib.hid hG
     clear hMS hG hCo hSy hRu
     go_upto_block 2 with (first
       | (have hg4 := hq40; go_at_call 15; refine (copy_nx (sm s) hS w2 M rs hr0 hsub ca sa ra cc sc rc HCY.out.1 HCY.out.2.1 HCY.out.2.2).mono ?_; rintro e w3 ⟨⟨ca', cc', sg, scap, rg, rcap, rfl, hNx⟩, hb3⟩)
       | (have hg4 := hq4; go_at_call 14; refine (next_any _ (w.heap.size + 1) a n 40 (by decide) (by decide) hm (HM1.out.num HL.out hz)).mono ?_; rintro e w2 hx2; have HM2 := Lib.hid (HM1.out.next hx2).1; have HG2 := Lib.hid (HG1.out.keep (HM1.out.next hx2).2); obtain ⟨⟨r40, hq40, hq40', rfl⟩, hx2⟩ := hx2; clear hx2; obtain ⟨q40, rfl⟩ : ∃ q : Nat, r40 = (q : Int) := ⟨r40.toNat, by omega⟩; have HCY : Hid (ColsAt w2 ca (sm s).cols /\ SymsT w2 sa (sm s).syms M /\ RulesT w2 ra rs) := (by obtain ⟨ca1, cc1, sa1, sc1, ra1, rc1, he, h1, h2, h3, _⟩ := HG2.out; cases he; exact Lib.hid ⟨h1, h2, h3⟩); have d0 := cellOf (i := 0) HM2.out.g rfl; have d1 := cellOf (i := 1) HM2.out.g rfl; have d2 := cellOf (i := 2) HM2.out.g rfl; have d3 := cellOf (i := 3) HM2.out.g rfl; have d4 := cellOf (i := 4) HM2.out.g rfl; have d5 := cellOf (i := 5) HM2.out.g rfl)
       | (go_at_call 14; refine (next_any _ (w.heap.size + 1) a n 4 (by decide) (by decide) hm (HMS.out.num HL.out hz)).mono ?_; rintro e w1 hx1; have HM1 := Lib.hid (HMS.out.next hx1).1; have HG1 := Lib.hid (HG.out.keep (HMS.out.next hx1).2); obtain ⟨⟨r4, hq4, hq4', rfl⟩, hx1⟩ := hx1; clear hx1; obtain ⟨q4, rfl⟩ : ∃ q : Nat, r4 = (q : Int) := ⟨r4.toNat, by omega⟩))
     have BA : Below w3.heap.size w3 (w3.alloc (.cells #[.string (sm s).nm, .int .i64 (sm s).ver, .slice ca' (sm s).cols.length cc', .slice (some ⟨sg, 0, none⟩) (sm s).syms.length scap, .slice (some ⟨rg, 0, none⟩) rs.length rcap, .int .i64 (sm s).st] 29)) := (Below.refl _ _).alloc (Nat.le_refl _) _
     have hN4 := hNx.keep (KeepT.below BA)
     have B4 : Below w2.heap.size w2 (w3.alloc (.cells #[.string (sm s).nm, .int .i64 (sm s).ver, .slice ca' (sm s).cols.length cc', .slice (some ⟨sg, 0, none⟩) (sm s).syms.length scap, .slice (some ⟨rg, 0, none⟩) rs.length rcap, .int .i64 (sm s).st] 29)) := hb3.trans (BA.mono hb3.size)
     have hnb : (w3.alloc (.cells #[.string (sm s).nm, .int .i64 (sm s).ver, .slice ca' (sm s).cols.length cc', .slice (some ⟨sg, 0, none⟩) (sm s).syms.length scap, .slice (some ⟨rg, 0, none⟩) rs.length rcap, .int .i64 (sm s).st] 29)).heap[w3.heap.size]? = some (.cells #[.string (sm s).nm, .int .i64 (sm s).ver, .slice ca' (sm s).cols.length cc', .slice (some ⟨sg, 0, none⟩) (sm s).syms.length scap, .slice (some ⟨rg, 0, none⟩) rs.length rcap, .int .i64 (sm s).st] 29 (0, 0)) := heapNew _ _
     have hnbg : w2.heap.size <= w3.heap.size := hb3.size
     have hMl : 13 <= w2.heap.size := by have := HM2.out.b.size; omega
     clear hNx hb3 BA HM1 HG1 HMS HG hq4 hq4' d0 d1 d2 d3 d4 d5 HCY
     generalize (w3.alloc (.cells #[.string (sm s).nm, .int .i64 (sm s).ver, .slice ca' (sm s).cols.length cc', .slice (some ⟨sg, 0, none⟩) (sm s).syms.length scap, .slice (some ⟨rg, 0, none⟩) rs.length rcap, .int .i64 (sm s).st] 29)) = w4 at hN4 B4 hnb ⊢
     generalize w3.heap.size = nb at hnb hnbg ⊢
     go_cut [] (fun wx => NG (sm s) k nb w2 wx)
     case first =>
       have e3 : w4.cell? ⟨nb, 3, none⟩ = some (.slice (some ⟨sg, 0, none⟩) (sm s).syms.length scap) := cellOf (i := 3) hnb rfl
       have e4 : w4.cell? ⟨nb, 4, none⟩ = some (.slice (some ⟨rg, 0, none⟩) rs.length rcap) := cellOf (i := 4) hnb rfl
       have z4 : w4.frozen? ⟨nb, 4, none⟩ = false := by simp [World.frozen?, hnb]
       have hnl := heap_lt' hnb
       by_cases k1 : q4 = 1
       · subst k1
         have hnz : ((rs.length : Int) == 0) = false := by rw [beq_eq_false_iff_ne]; omega
         go_upto_region 12 with fail
         rw [show (q40 : Int) % (rs.length : Int) = ((q40 % rs.length : Nat) : Int) from rfl]
         have ht := Nat.mod_lt q40 hr0
         generalize q40 % rs.length = t at ht ⊢
         obtain ⟨arr, harr, harz⟩ := hN4.r0
         have hrc := hN4.rl
         have hND := Lib.hid (hN4.keep (KeepT.below ((Below.refl w4.heap.size w4).drew)))
         have HARR : Hid (w4.drew.heap[rg]? = some (Obj.cells arr 76 (0, 0))) := Lib.hid harr
         have hrl40 : rs.length <= 40 := Nat.le_trans hsub.length_le hS.rules
         have t1 : (0 : Int) <= (t : Int) := by omega
         have t2 : (t : Int) <= (rcap : Int) := by omega
         have t3 : (t : Int) + 1 <= (rs.length : Int) := by omega
         have t4 : (t : Int) + 1 <= (rcap : Int) := by omega
         have t5 : IntKind.i64.wrap ((t : Int) + 1) = (t : Int) + 1 := IntWalk.i64_in _ ⟨by omega, by omega⟩
         have t6 : (rs.length : Int) <= (rcap : Int) := by omega
         have t7 : (0 : Int) <= (t : Int) + 1 := by omega
         have t8 : (t : Int) <= (t : Int) + 1 := by omega
         have t9 : t <= t + 1 := by omega
         clear harr
         have hnr : nb ≠ rg := fun e => by rw [e] at hnb; have := HARR.out; rw [show w4.drew.heap[rg]? = w4.heap[rg]? from rfl, hnb] at this; cases this
         by_cases hcap : rcap = t + 1
         · subst hcap
           go_region_law (first | (refine step_append_room (by rfl) _ _ _ (by rfl) 76 i112 4 Tryz.underlying27 hi112 hc1 rg 0 t (t + 1) (by rfl) ⟨rg, 0, none⟩ 0 0 (tailOf arr t rs.length) (by rfl) (by rw [tail_len hND.out harz ht]; omega) (fun j u hj => by have h0 := tail_len hND.out harz ht; have h1 := (List.getElem?_eq_some_iff.1 hj).1; omega) (tail_one hND.out HARR.out harz ht) (by omega) (spare hND.out HARR.out harz ht) ?_; have k9 : (w4.drew.setCells rg (t * 4) (tailOf arr t rs.length)).cell? ⟨nb, 4, none⟩ = some (.slice (some ⟨rg, 0, none⟩) rs.length (t + 1)) := (by rw [World.cell?_setCells_out _ _ _ _ _ (fun e _ => absurd e hnr)]; exact e4); have z9 : (w4.drew.setCells rg (t * 4) (tailOf arr t rs.length)).frozen? ⟨nb, 4, none⟩ = false := (by rw [World.frozen?_setCells]; exact z4)))
           all_goals (
             go_wp2_with fail
             go_meet
             exact ng_erase B4.drew hnb hnbg hND.out HARR.out harz ht (by omega) hMb hsub hlen)
         · go_region_law (first | (refine step_append_room (by rfl) _ _ _ (by rfl) 76 i112 4 Tryz.underlying27 hi112 hc1 rg 0 t (rcap) (by rfl) ⟨rg, (t + 1) * 4, none⟩ (rs.length - (t + 1)) (rcap - (t + 1)) (tailOf arr t rs.length) (by rfl) (by rw [tail_len hND.out harz ht]; omega) (tail_cells hND.out HARR.out harz ht) (tail_one hND.out HARR.out harz ht) (by omega) (spare hND.out HARR.out harz ht) ?_; have k9 : (w4.drew.setCells rg (t * 4) (tailOf arr t rs.length)).cell? ⟨nb, 4, none⟩ = some (.slice (some ⟨rg, 0, none⟩) rs.length (rcap)) := (by rw [World.cell?_setCells_out _ _ _ _ _ (fun e _ => absurd e hnr)]; exact e4); have z9 : (w4.drew.setCells rg (t * 4) (tailOf arr t rs.length)).frozen? ⟨nb, 4, none⟩ = false := (by rw [World.frozen?_setCells]; exact z4)))
           all_goals (
             go_wp2_with fail
             go_meet
             exact ng_erase B4.drew hnb hnbg hND.out HARR.out harz ht (by omega) hMb hsub hlen)
       by_cases k2 : q4 = 2
       · subst k2
         have hsy0 := hS.syms0
         have hnz : (((sm s).syms.length : Int) == 0) = false := by rw [beq_eq_false_iff_ne]; omega
         go_upto_region 15 with fail
         rw [show (q40 : Int) % ((sm s).syms.length : Int) = ((q40 % (sm s).syms.length : Nat) : Int) from rfl]
         have ht := Nat.mod_lt q40 hS.syms0
         generalize q40 % (sm s).syms.length = t at ht ⊢
         have hsn := hS.syms
         obtain ⟨sarr, hsarr⟩ := hN4.s0
         obtain ⟨sb', so', hse, _, hsc⟩ := hN4.s
         cases hse
         have g2 := (hsc t ht).2.2
         simp only [Nat.zero_add] at g2
         have y2 : w4.frozen? ⟨sg, t * 3 + 2, none⟩ = false := by simp [World.frozen?, hsarr]
         have m1 := (hMb t).1
         have m5 := (hMb t).2
         have t1 : (0 : Int) <= (t : Int) := by omega
         have t2 : (t : Int) < ((sm s).syms.length : Int) := by omega
         have t3 : (t : Int) <= 1000 := by omega
         have t4 : (M t : Int) <= 5 := by omega
         have t5 : (1 : Int) <= (M t : Int) := by omega
         clear hsc
         go_region
         all_goals (
           go_wp2_with fail
           go_meet
           rw [show max (1 : Int) ((M t : Int) - 1) = ((max 1 (M t - 1) : Nat) : Int) by omega]
           exact (ng_max B4 hnb hN4 ht (by omega) hMb hsub hlen).drew)
       by_cases k3 : q4 = 3
       · subst k3
         have hsy0 := hS.syms0
         have hnz : (((sm s).syms.length : Int) == 0) = false := by rw [beq_eq_false_iff_ne]; omega
         go_upto_region 18 with fail
         rw [show (q40 : Int) % ((sm s).syms.length : Int) = ((q40 % (sm s).syms.length : Nat) : Int) from rfl]
         have ht := Nat.mod_lt q40 hS.syms0
         generalize q40 % (sm s).syms.length = t at ht ⊢
         have hsn := hS.syms
         obtain ⟨sarr, hsarr⟩ := hN4.s0
         obtain ⟨sb', so', hse, _, hsc⟩ := hN4.s
         cases hse
         have g2 := (hsc t ht).2.2
         simp only [Nat.zero_add] at g2
         have y2 : w4.frozen? ⟨sg, t * 3 + 2, none⟩ = false := by simp [World.frozen?, hsarr]
         have m1 := (hMb t).1
         have m5 := (hMb t).2
         have t1 : (0 : Int) <= (t : Int) := by omega
         have t2 : (t : Int) < ((sm s).syms.length : Int) := by omega
         have t3 : (t : Int) <= 1000 := by omega
         have t4 : (M t : Int) <= 5 := by omega
         have t5 : (1 : Int) <= (M t : Int) := by omega
         clear hsc
         go_region
         all_goals (
           go_wp2_with fail
           go_meet
           rw [show min (5 : Int) ((M t : Int) + 1) = ((min 5 (M t + 1) : Nat) : Int) by omega]
           exact (ng_max B4 hnb hN4 ht (by omega) hMb hsub hlen).drew)
       have i1 : ((q4 : Int) == 1) = false := by simp; omega
       have i2 : ((q4 : Int) == 2) = false := by simp; omega
       have i3 : ((q4 : Int) == 3) = false := by simp; omega
       go_wp2_with fail
       go_meet
       exact ⟨B4, M, rs, ca', cc', sg, scap, rg, rcap, hnb, hN4, hMb, hsub, by omega⟩
     case rest =>
       obtain ⟨B5, M5, rs5, ca5, cc5, sg5, scap5, rg5, rcap5, hnb5, hN5, hMb5, hsub5, hlen5⟩ := hcut
       clear hN4 B4 hnb
       have h0 := cellOf (i := 0) hnb5 rfl; have h1 := cellOf (i := 1) hnb5 rfl; have h2 := cellOf (i := 2) hnb5 rfl; have h3 := cellOf (i := 3) hnb5 rfl; have h4 := cellOf (i := 4) hnb5 rfl; have h5 := cellOf (i := 5) hnb5 rfl
       have hwc : 13 <= wc.heap.size := Nat.le_trans hMl B5.size
       have HN5 := Lib.hid hN5
       obtain ⟨U5, hU5⟩ : ∃ U : Nat -> Nat -> Nat, Need U rs5 /\ ∀ j, j <= M5 (sm s).st -> U (sm s).st j ≠ 0 -> Starts rs5 M5 (sm s).st := ⟨_, cut_need hS.need hShape.out hsub5, fun j h1 h2 => starts_of hShape.out h1 h2⟩
       have HU5 := Lib.hid hU5
       clear hN5 hU5
       go_wp2
       go_region_held3 (fun W => W.cell? ⟨nb, 0, none⟩ = some (.string (sm s).nm) /\ W.cell? ⟨nb, 1, none⟩ = some (.int .i64 (sm s).ver) /\ W.cell? ⟨nb, 2, none⟩ = some (.slice ca5 (sm s).cols.length cc5) /\ W.cell? ⟨nb, 3, none⟩ = some (.slice (some ⟨sg5, 0, none⟩) (sm s).syms.length scap5) /\ W.cell? ⟨nb, 4, none⟩ = some (.slice (some ⟨rg5, 0, none⟩) rs5.length rcap5) /\ W.cell? ⟨nb, 5, none⟩ = some (.int .i64 (sm s).st))
         (first | exact ⟨h0, h1, h2, h3, h4, h5⟩ | exact ⟨p0, p1, p2, p3, p4, p5⟩ | exact ⟨t0, t1, t2, t3, t4, t5⟩)
         (first
           | (go_at_call 17; refine (base_nil _ (by show 13 <= wc.heap.size; omega)).mono ?_; rintro e w6 ⟨⟨bv, rfl, hBO⟩, hb6⟩; have hnb6 : w6.heap[nb]? = some (.cells #[.string (sm s).nm, .int .i64 (sm s).ver, .slice ca5 (sm s).cols.length cc5, .slice (some ⟨sg5, 0, none⟩) (sm s).syms.length scap5, .slice (some ⟨rg5, 0, none⟩) rs5.length rcap5, .int .i64 (sm s).st] 29 (0, 0)) := (by rw [hb6.block nb (heap_lt' hnb5)]; exact hnb5); have HN6 := Lib.hid (HN5.out.keep (KeepT.trans (KeepT.below ((Below.refl wc.heap.size wc).drew)) (KeepT.below hb6))); have p0 := cellOf (i := 0) hnb6 rfl; have p1 := cellOf (i := 1) hnb6 rfl; have p2 := cellOf (i := 2) hnb6 rfl; have p3 := cellOf (i := 3) hnb6 rfl; have p4 := cellOf (i := 4) hnb6 rfl; have p5 := cellOf (i := 5) hnb6 rfl)
           | (go_at_call 16; refine (check_any (sm s) hS hNice.out U5 hty w6 M5 hMb5 rs5 hsub5 HU5.out.1 ca5 _ _ cc5 scap5 rcap5 HN6.out.c HN6.out.s.at HN6.out.r.at bv hBO).mono ?_; rintro e w7 ⟨⟨x7, y7, rfl, hck⟩, hb7⟩; have hCK := Lib.hid hck; clear hck; have hnb7 : w7.heap[nb]? = some (.cells #[.string (sm s).nm, .int .i64 (sm s).ver, .slice ca5 (sm s).cols.length cc5, .slice (some ⟨sg5, 0, none⟩) (sm s).syms.length scap5, .slice (some ⟨rg5, 0, none⟩) rs5.length rcap5, .int .i64 (sm s).st] 29 (0, 0)) := (by rw [hb7.block nb (heap_lt' hnb6)]; exact hnb6); have t0 := cellOf (i := 0) hnb7 rfl; have t1 := cellOf (i := 1) hnb7 rfl; have t2 := cellOf (i := 2) hnb7 rfl; have t3 := cellOf (i := 3) hnb7 rfl; have t4 := cellOf (i := 4) hnb7 rfl; have t5 := cellOf (i := 5) hnb7 rfl))
       have B6 : Below wc.heap.size wc w6 := ((Below.refl wc.heap.size wc).drew).trans hb6
       have B27 : Below w2.heap.size w2 w7 := (B5.trans (B6.mono B5.size)).trans (hb7.mono (Nat.le_trans B5.size B6.size))
       have hM7 := HM2.out.below B27
       have hG7 := HG2.out.keep (KeepT.below B27)
       have hN7 := HN6.out.keep (KeepT.below hb7)
       have d0 := cellOf (i := 0) hM7.g rfl
       have d1 := cellOf (i := 1) hM7.g rfl
       have d2 := cellOf (i := 2) hM7.g rfl
       have d3 := cellOf (i := 3) hM7.g rfl
       have d4 := cellOf (i := 4) hM7.g rfl
       have d5 := cellOf (i := 5) hM7.g rfl
       have y0 : w7.frozen? ⟨gb, 0, none⟩ = false := by simp [World.frozen?, hM7.g]
       have y1 : w7.frozen? ⟨gb, 1, none⟩ = false := by simp [World.frozen?, hM7.g]
       have y2 : w7.frozen? ⟨gb, 2, none⟩ = false := by simp [World.frozen?, hM7.g]
       have y3 : w7.frozen? ⟨gb, 3, none⟩ = false := by simp [World.frozen?, hM7.g]
       have y4 : w7.frozen? ⟨gb, 4, none⟩ = false := by simp [World.frozen?, hM7.g]
       have y5 : w7.frozen? ⟨gb, 5, none⟩ = false := by simp [World.frozen?, hM7.g]
       have R1 : Hid (MG (sm s) w a n gb (k + 1) w7) := Lib.hid ⟨_, M, rs, hM7, hG7, hMb, hsub, by omega, HSt.out⟩
       have R2 := Lib.hid (fun hS5 : Starts rs5 M5 (sm s).st => mg_six hM7 hN7.gram hMb5 hsub5 hlen5 hS5)
       clear hM7 hG7 hN7 HN6 HN5 B6 B27 B5 hnb5 hnb6 hnb7 h0 h1 h2 h3 h4 h5 p0 p1 p2 p3 p4 p5 HM2 HG2 hBO
       by_cases hy : y7 = 0
       · subst hy
         have R2 := Lib.hid (R2.out (by obtain ⟨jj, hj1, hj2⟩ := hCK.out rfl; exact HU5.out.2 jj hj1 hj2))
         go_wp2
         go_roundw
         case rel => first | exact ⟨k + 1, by omega, by go_num, R2.out⟩ | ((repeat apply Exists.intro); refine ⟨?_, rfl⟩; exact ⟨k + 1, by omega, by go_num, R2.out⟩)
         case measure => simp [RowKit.intOf]; omega
       · have hy' : (y7 == 0) = false := by simpa using hy
         go_wp2
         go_roundw
         case rel => first | exact ⟨k + 1, by omega, by go_num, R1.out⟩ | ((repeat apply Exists.intro); refine ⟨?_, rfl⟩; exact ⟨k + 1, by omega, by go_num, R1.out⟩)
         case measure => simp [RowKit.intOf]; omega
   · have j1 : ¬ (k : Int) < 3 := by omega
     have d0 := cellOf (i := 0) hMS.g rfl
     have d1 := cellOf (i := 1) hMS.g rfl
     have d2 := cellOf (i := 2) hMS.g rfl
     have d3 := cellOf (i := 3) hMS.g rfl
     have d4 := cellOf (i := 4) hMS.g rfl
     have d5 := cellOf (i := 5) hMS.g rfl
     have p0 := cellOf (i := 0) hMS.q rfl
     have p1 := cellOf (i := 1) hMS.q rfl
     have p2 := cellOf (i := 2) hMS.q rfl
     have p3 := cellOf (i := 3) hMS.q rfl
     have p4 := cellOf (i := 4) hMS.q rfl
     have p5 := cellOf (i := 5) hMS.q rfl
     have y0 : wr.frozen? ⟨w.heap.size, 0, none⟩ = false := by simp [World.frozen?, hMS.q]
     have y1 : wr.frozen? ⟨w.heap.size, 1, none⟩ = false := by simp [World.frozen?, hMS.q]
     have y2 : wr.frozen? ⟨w.heap.size, 2, none⟩ = false := by simp [World.frozen?, hMS.q]
     have y3 : wr.frozen? ⟨w.heap.size, 3, none⟩ = false := by simp [World.frozen?, hMS.q]
     have y4 : wr.frozen? ⟨w.heap.size, 4, none⟩ = false := by simp [World.frozen?, hMS.q]
     have y5 : wr.frozen? ⟨w.heap.size, 5, none⟩ = false := by simp [World.frozen?, hMS.q]
     have H6 := Lib.hid (keep_six hMS.q (.string (sm s).nm) (.int .i64 (sm s).ver) (.slice ca (sm s).cols.length cc) (.slice sa (sm s).syms.length sc) (.slice ra rs.length rc) (.int .i64 (sm s).st))
     have HB6 := Lib.hid (below_six hMS.b (b := w.heap.size) (Nat.le_refl _) (.string (sm s).nm) (.int .i64 (sm s).ver) (.slice ca (sm s).cols.length cc) (.slice sa (sm s).syms.length sc) (.slice ra rs.length rc) (.int .i64 (sm s).st))
     have HC := Lib.hid hG
     clear hMS hG hCo hSy hRu
     go_wp2
     refine bodyPost_ret (results_cell_row (fn := Tryz.f5) rfl _ _ w.heap.size 29 _ (0, 0) _ rfl H6.out.2 Tryz.underlying29 rfl size28) rfl ?_
     exact ⟨⟨s, M, rs, _, rfl, HC.out.keep H6.out.1, hMb, hsub, by omega, HSt.out⟩, HB6.out⟩
end Go.EvPart.N
