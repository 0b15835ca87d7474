/- ItemPartials, one part of the proof: PartS1. -/
import Derived.Test.YtljoobbnhbaklaaGreatDoorP22
import Derived.Test.YtljoobbnhbaklaaGreatDoorP17
set_option linter.all false
set_option maxRecDepth 100000
set_option maxHeartbeats 16000000
namespace Go.EvPart
open Go Go.Proofs Go.RowKit Go.EvNil
structure NumRow (w : World) (b n : Nat) (f : Nat -> Nat) : Prop where
 lt : b < w.heap.size
 at' : ∃ arr, w.heap[b]? = some (.cells arr 3 (0, 0)) /\ arr.size = n /\ ∀ i, i < n -> arr[i]? = some (.int .i64 (f i))
theorem NumRow.cell {w : World} {b n : Nat} {f : Nat -> Nat} (h : NumRow w b n f) {i : Nat} (hi : i < n) : w.cell? ⟨b, i, none⟩ = some (.int .i64 (f i)) := by
 obtain ⟨arr, h1, _, h3⟩ := h.at'
 exact cellOf h1 (h3 i hi)
theorem NumRow.free {w : World} {b n : Nat} {f : Nat -> Nat} (h : NumRow w b n f) (i : Nat) : w.frozen? ⟨b, i, none⟩ = false := by
 obtain ⟨arr, h1, _⟩ := h.at'
 simp [World.frozen?, h1]
theorem NumRow.below {w w' : World} {b n B : Nat} {f : Nat -> Nat} (h : NumRow w b n f) (hB : b < B) (hb : Below B w w') : NumRow w' b n f := by
 obtain ⟨arr, h1, h2, h3⟩ := h.at'
 exact ⟨Nat.lt_of_lt_of_le h.lt hb.size, arr, by rw [hb.block b hB]; exact h1, h2, h3⟩
theorem NumRow.set {w : World} {b n : Nat} {f : Nat -> Nat} (h : NumRow w b n f) {j m : Nat} (hj : j < n) : NumRow (w.setCell ⟨b, j, none⟩ (.int .i64 m)) b n (fun i => if i = j then m else f i) := by
 obtain ⟨arr, h1, h2, h3⟩ := h.at'
 refine ⟨by simpa using h.lt, arr.setIfInBounds j (.int .i64 m), Joins.block_setCell h1 _, by simpa using h2, fun i hi => ?_⟩
 by_cases e : i = j
 · subst e; simp [h2, hi]
 · simp only [if_neg e]
   rw [Array.getElem?_setIfInBounds_ne (Ne.symm e)]; exact h3 i hi
theorem mkInts (n : Nat) (h1 : 1 <= n) (h5 : n <= 12) : ∀ (w : World), (Instr.makeSlice 22 (.int .i64 n) (.int .i64 n)).run Tryz.prog w = .ok (.slice (some ⟨w.heap.size, 0, none⟩) n n) (w.alloc (.cells (Array.replicate n (.int .i64 0)) 3)) := by
 have : n = 1 ∨ n = 2 ∨ n = 3 ∨ n = 4 ∨ n = 5 ∨ n = 6 ∨ n = 7 ∨ n = 8 ∨ n = 9 ∨ n = 10 ∨ n = 11 ∨ n = 12 := by omega
 rcases this with rfl | rfl | rfl | rfl | rfl | rfl | rfl | rfl | rfl | rfl | rfl | rfl
 all_goals (intro w; kernel_rfl)
theorem NumRow.zero (w : World) (n : Nat) : NumRow (w.alloc (.cells (Array.replicate n (.int .i64 0)) 3)) w.heap.size n (fun _ => 0) :=
 ⟨by simp, _, heapNew w _, by simp, fun i hi => by simp [hi]⟩
theorem GB.set {w wr : World} {G : Array Value} (h : GB w G wr) {b i : Nat} {v : Value} (hb : w.heap.size < b) : GB w G (wr.setCell ⟨b, i, none⟩ v) :=
 ⟨h.b.setCell (Nat.le_of_lt hb) _, by unfold BoxIs; rw [Below.heap_setCell _ _ _ _ (show w.heap.size ≠ b by omega)]; exact h.g⟩
structure NeedOk (M : Nat -> Nat) (rs : List Rl) (st d : Nat) (f : Nat -> Nat) : Prop where
 le : ∀ i, f i <= 5
 lo : M st <= f st
 un : ∀ j (hj : j < rs.length), j < d -> rs[j].h = st -> 2 <= M st -> ∀ a, rs[j].args = [a] -> 1 <= f a
theorem NeedOk.up {M : Nat -> Nat} {rs : List Rl} {st d : Nat} {f : Nat -> Nat} (h : NeedOk M rs st d f) {a m : Nat} (h1 : f a <= m) (h5 : m <= 5) : NeedOk M rs st d (fun i => if i = a then m else f i) := by
 refine ⟨fun i => ?_, ?_, fun j hj hd hs h2 b hb => ?_⟩
 · split
   · exact h5
   · exact h.le i
 · split
   · rename_i e; have := h.lo; rw [e] at this ⊢; omega
   · exact h.lo
 · have := h.un j hj hd hs h2 b hb
   split
   · rename_i e; subst e; omega
   · exact this
theorem NeedOk.step {M : Nat -> Nat} {rs : List Rl} {st d k : Nat} {f : Nat -> Nat} (h : NeedOk M rs st d f) (hk : k < rs.length) (hd : k <= d) (hu : rs[k].h = st -> 2 <= M st -> ∀ a, rs[k].args = [a] -> 1 <= f a) : ∃ d', k + 1 <= d' /\ NeedOk M rs st d' f := by
 by_cases e0 : k + 1 <= d
 · exact ⟨d, e0, h⟩
 obtain rfl : d = k := by omega
 refine ⟨d + 1, by omega, h.le, h.lo, fun j hj hjd hs h2 a ha => ?_⟩
 by_cases e : j < d
 · exact h.un j hj e hs h2 a ha
 · obtain rfl : j = d := by omega
   exact hu hs h2 a ha
section
variable {S : Sample} {M : Nat -> Nat} {rs : List Rl} {ca sa : Option Addr} {cc sc rb ro rc : Nat} {w : World}
def RetNeed (S : Sample) (M : Nat -> Nat) (rs : List Rl) (e : Ending) (w' : World) : Prop := ∃ b f, e = .returned (.slice (some ⟨b, 0, none⟩) S.syms.length S.syms.length) /\ NumRow w' b S.syms.length f /\ NeedOk M rs S.st rs.length f
attribute [local irreducible] wpStill wpAnyH in
theorem needs_any (h : Gr S M rs ca sa cc sc rb ro rc w) :
   Calls Tryz.prog 44 #[.agg (gA S rs ca sa cc sc rb ro rc)] w fun e w' => RetNeed S M rs e w' /\ Below w.heap.size w w' := by
 have HH := Lib.hid h
 have HX := GB.new w (gA S rs ca sa cc sc rb ro rc)
 have hsn0 := h.ok.syms0
 have hsn := h.ok.syms
 have hst := h.ok.st
 have hrn := h.rn
 have HM := Lib.hid h.lim
 have hM0 := h.lim S.st
 have HRU := Lib.hid (fun r (hr : r ∈ rs) => h.ok.rule r (h.sub.subset hr))
 obtain ⟨sb, so, hse, hsb, hsc⟩ := h.y
 have HY := Lib.hid (fun W (hW : Below w.heap.size w W) i (hi : i < S.syms.length) => (hW.cell (p := ⟨sb, so + i * 3 + 2, none⟩) hsb).trans (hsc i hi).2.2)
 subst hse
 have HR := Lib.hid h.r
 have hmk := mkInts S.syms.length hsn0 hsn
 have g3 := cellOf (i := 3) HX.g rfl
 clear h
 go_enter Tryz.func44, Tryz.ntmps44
 go_upto_region 2 with fail
 have hk := Lib.hid hmk
 clear hmk g3
 have HG1 : GB w (gA S rs ca (some ⟨sb, so, none⟩) cc sc rb ro rc) ((w.alloc (.cells (gA S rs ca (some ⟨sb, so, none⟩) cc sc rb ro rc) 29)).alloc (.cells (Array.replicate S.syms.length (.int .i64 0)) 3)) := HX.below ((Below.refl _ _).alloc (Nat.le_refl _) _)
 have hN0 := NumRow.zero (w.alloc (.cells (gA S rs ca (some ⟨sb, so, none⟩) cc sc rb ro rc) 29)) S.syms.length
 rw [sizeNew] at hN0
 clear HX hk
 generalize (w.alloc (.cells (gA S rs ca (some ⟨sb, so, none⟩) cc sc rb ro rc) 29)).alloc (.cells (Array.replicate S.syms.length (.int .i64 0)) 3) = w1 at *
 have hl1 := hN0.lt
 have fr := hN0.free S.st
 have c0 := hN0.cell hst
 have g3 := cellOf (i := 3) HG1.g rfl
 have g5 := cellOf (i := 5) HG1.g rfl
 have f2 := HY.out _ HG1.b S.st hst
 have nw1 : w.heap.size ≠ w.heap.size + 1 := by omega
 have nw2 : sb ≠ w.heap.size + 1 := by omega
 have i1 : (0 : Int) <= (S.st : Int) := by omega
 have i2 : (S.st : Int) < (S.syms.length : Int) := by omega
 clear hsc
 go_region_held3 (fun X => X.cell? ⟨w.heap.size, 3, none⟩ = some (.slice (some ⟨sb, so, none⟩) S.syms.length sc) /\ X.cell? ⟨w.heap.size, 5, none⟩ = some (.int .i64 S.st) /\ X.cell? ⟨sb, so + S.st * 3 + 2, none⟩ = some (.int .i64 (M S.st))) (first | exact ⟨g3, g5, f2⟩ | exact ⟨(World.cell?_of_block (Below.heap_setCell _ _ _ _ nw1)).trans g3, (World.cell?_of_block (Below.heap_setCell _ _ _ _ nw1)).trans g5, (World.cell?_of_block (Below.heap_setCell _ _ _ _ nw2)).trans f2⟩ | go_keep) (fail)
 have HG2 : GB w (gA S rs ca (some ⟨sb, so, none⟩) cc sc rb ro rc) (w1.setCell ⟨w.heap.size + 1, S.st, none⟩ (.int .i64 (M S.st))).drew := (HG1.set (by omega)).drew'
 have hN2 := (hN0.set (m := M S.st) hst).below (B := w.heap.size + 2) (by omega) ((Below.refl _ _).drew)
 have NK : NeedOk M rs S.st 0 (fun i => if i = S.st then M S.st else 0) := ⟨fun i => by
   split
   · exact hM0.2
   · omega, by simp, fun j hj hd => by omega⟩
 clear HG1 hN0 hl1 fr c0 g3 g5 f2
 generalize (w1.setCell ⟨w.heap.size + 1, S.st, none⟩ (.int .i64 (M S.st))).drew = w2 at *
 generalize hf0 : (fun i => if i = S.st then M S.st else 0) = f0 at *
 clear hf0
 go_wp2
 go_loopw [4] (fun v wr => ∃ (t d : Nat) (f : Nat -> Nat), t <= S.syms.length + 1 /\ v = .int .i64 t /\ (1 <= t -> rs.length <= d) /\ GB w (gA S rs ca (some ⟨sb, so, none⟩) cc sc rb ro rc) wr /\ NumRow wr (w.heap.size + 1) S.syms.length f /\ NeedOk M rs S.st d f) (fun v _ => S.syms.length + 1 - (intOf v).toNat)
 case atStart => exact ⟨0, 0, _, Nat.zero_le _, rfl, by omega, HG2, hN2, NK⟩
 case round =>
   clear HG2 hN2 NK
   obtain ⟨t, d, f, ht, rfl, hd, HG, hN, hK⟩ := hrel
   have g3 := cellOf (i := 3) HG.g rfl
   have lg := heap_lt' HG.g
   by_cases hlt : t < S.syms.length + 1
   · have j0 : (t : Int) < (S.syms.length : Int) + 1 := by omega
     have j9 : (S.syms.length : Int) <= 12 := by omega
     go_wp2
     go_loopw [5] (fun v wr => ∃ (k d : Nat) (f : Nat -> Nat), k <= rs.length /\ v = .int .i64 k /\ k <= d /\ GB w (gA S rs ca (some ⟨sb, so, none⟩) cc sc rb ro rc) wr /\ NumRow wr (w.heap.size + 1) S.syms.length f /\ NeedOk M rs S.st d f) (fun v _ => rs.length - (intOf v).toNat)
     case atStart => exact ⟨0, d, f, Nat.zero_le _, rfl, Nat.zero_le _, HG, hN, hK⟩
     case round =>
       clear HG hN hK g3 lg hd
       obtain ⟨k, d, f, hk, rfl, hkd, HG, hN, hK⟩ := hrel
       have g4 := cellOf (i := 4) HG.g rfl
       have lg := heap_lt' HG.g
       by_cases hltk : k < rs.length
       · obtain ⟨rb', ro', e', hrb, hrc⟩ := HR.out
         cases e'
         obtain ⟨aa, ac, hr⟩ := hrc k hltk
         have q0 := (HG.b.cell hrb).trans hr.c0
         have q1 := (HG.b.cell hrb).trans hr.c1
         have q2 := (HG.b.cell hrb).trans hr.c2
         have q3 := (HG.b.cell hrb).trans hr.c3
         have hargs := Lib.hid hr.args
         obtain ⟨hh, hal, harg, _, _⟩ := HRU.out _ (List.getElem_mem hltk)
         have j1 : (0 : Int) <= (k : Int) := by omega
         have j2 : (k : Int) < (rs.length : Int) := by omega
         clear hrc hr
         go_upto_region 10 with fail
         have HG3 : GB w (gA S rs ca (some ⟨sb, so, none⟩) cc sc rb ro rc) (wr.alloc (.cells #[.int .i64 rs[k].h, .string rs[k].op, .string rs[k].pa, .slice aa rs[k].args.length ac] 76)).drew := (HG.below ((Below.refl _ _).alloc (Nat.le_refl _) _)).drew'
         have HB3 : BoxIs (wr.alloc (.cells #[.int .i64 rs[k].h, .string rs[k].op, .string rs[k].pa, .slice aa rs[k].args.length ac] 76)).drew wr.heap.size 76 #[.int .i64 rs[k].h, .string rs[k].op, .string rs[k].pa, .slice aa rs[k].args.length ac] := (BoxIs.new wr _ _).below ((Below.refl _ _).drew)
         have hN3 : NumRow (wr.alloc (.cells #[.int .i64 rs[k].h, .string rs[k].op, .string rs[k].pa, .slice aa rs[k].args.length ac] 76)).drew (w.heap.size + 1) S.syms.length f := hN.below hN.lt (((Below.refl wr.heap.size wr).alloc (Nat.le_refl _) _).drew)
         have hxb : w.heap.size + 1 < wr.heap.size := hN.lt
         have lx := heap_lt' HB3
         refine wp_region_still_lit (by kernel_rfl) (by kernel_rfl) ?_
         change wpStill _ _ (wr.alloc (.cells #[.int .i64 rs[k].h, .string rs[k].op, .string rs[k].pa, .slice aa rs[k].args.length ac] 76)).drew (fun a' => Exit.then _ _ Exit.normal a' (wr.alloc (.cells #[.int .i64 rs[k].h, .string rs[k].op, .string rs[k].pa, .slice aa rs[k].args.length ac] 76)).drew) _ _
         clear HG hN q0 q1 q2 q3 g4
         generalize (wr.alloc (.cells #[.int .i64 rs[k].h, .string rs[k].op, .string rs[k].pa, .slice aa rs[k].args.length ac] 76)).drew = w3 at *
         generalize wr.heap.size = xb at *
         have x0 := cellOf (i := 0) HB3 rfl
         have x3 := cellOf (i := 3) HB3 rfl
         have cf := hN3.cell hh
         have fh5 := hK.le rs[k].h
         have j3 : (0 : Int) <= (rs[k].h : Int) := by omega
         have j4 : (rs[k].h : Int) < (S.syms.length : Int) := by omega
         have j5 : (f rs[k].h : Int) <= 5 := by omega
         have j6 : (rs[k].args.length : Int) <= 3 := by omega
         repeat still_step
         refine wpStill_nil ?_
         have hRR : IntKind.i64.wrap ((f rs[k].h : Int) - (rs[k].args.length : Int)) = (f rs[k].h : Int) - (rs[k].args.length : Int) := IntWalk.i64_in _ ⟨by omega, by omega⟩
         rw [hRR]
         obtain ⟨R, hR⟩ : ∃ R : Int, (f rs[k].h : Int) - (rs[k].args.length : Int) = R := ⟨_, rfl⟩
         rw [hR]
         clear hRR cf
         have hRl : R <= 5 := by omega
         have HKL := Lib.hid hK.lo
         have hR := Lib.hid hR
         have HF := Lib.hid (show Go.EvPart.NeedOk M rs S.st d f from hK)
         go_wp2
         go_loopw [8] (fun v wr => ∃ (j : Nat) (f' : Nat -> Nat), j <= rs[k].args.length /\ v = .int .i64 j /\ GB w (gA S rs ca (some ⟨sb, so, none⟩) cc sc rb ro rc) wr /\ BoxIs wr xb 76 #[.int .i64 rs[k].h, .string rs[k].op, .string rs[k].pa, .slice aa rs[k].args.length ac] /\ NumRow wr (w.heap.size + 1) S.syms.length f' /\ NeedOk M rs S.st d f' /\ Hid (1 <= j -> rs[k].h = S.st -> 2 <= M S.st -> ∀ a, rs[k].args = [a] -> 1 <= f' a)) (fun v _ => rs[k].args.length - (intOf v).toNat)
         case atStart => exact ⟨0, f, Nat.zero_le _, rfl, HG3, HB3, hN3, hK, Lib.hid fun h => by omega⟩
         case round =>
           clear HG3 HB3 hN3 hK x0 x3 lx fh5 j5
           obtain ⟨j, f', hj, rfl, HG, HB, hN, hK, HU⟩ := hrel
           have x3 := cellOf (i := 3) HB rfl
           have g3 := cellOf (i := 3) HG.g rfl
           have lx := heap_lt' HB
           by_cases hltj : j < rs[k].args.length
           · have k1 : (0 : Int) <= (j : Int) := by omega
             have k2 : (j : Int) < (rs[k].args.length : Int) := by omega
             obtain ⟨ab, ao, rfl, hab, hax⟩ := hargs.out (by omega)
             have cx := (HG.b.cell hab).trans (hax j hltj)
             have hba := harg _ (List.getElem_mem hltj)
             have cm := HY.out _ HG.b _ hba
             have co := hN.cell hba
             have fo := hN.free rs[k].args[j]
             have lb := hN.lt
             have hm5 := HM.out rs[k].args[j]
             have hf5 := hK.le rs[k].args[j]
             have k3 : (0 : Int) <= (rs[k].args[j] : Int) := by omega
             have k4 : (rs[k].args[j] : Int) < (S.syms.length : Int) := by omega
             clear hax
             go_wp2
             refine wp_region_held_drew (S := (fun W => W.cell? ⟨w.heap.size, 3, none⟩ = some (.slice (some ⟨sb, so, none⟩) S.syms.length sc) /\ W.cell? ⟨xb, 3, none⟩ = some (.slice (some ⟨ab, ao, none⟩) rs[k].args.length ac) /\ W.cell? ⟨ab, ao + j, none⟩ = some (.int .i64 rs[k].args[j]) /\ W.cell? ⟨sb, so + rs[k].args[j] * 3 + 2, none⟩ = some (.int .i64 (M rs[k].args[j])))) (by kernel_rfl) ⟨g3, x3, cx, cm⟩ (fun hHeld => ?_)
             refine tkD (i := 0) (d := some 60) (v := ?_) rfl rfl (Or.inl ⟨by rfl, ?_⟩) (by assumption) ?_
             rotate_left
             · intro w hSw; (try dsimp only at hSw); (go_simp <;> with_reducible rfl)
             try simp only [Qa, Qb, Qc, Qd]
             refine tkD (i := 1) (d := some 61) (v := ?_) rfl rfl (Or.inl ⟨by rfl, ?_⟩) (by assumption) ?_
             rotate_left
             · intro w hSw; (try dsimp only at hSw); (go_simp <;> with_reducible rfl)
             try simp only [Qa, Qb, Qc, Qd]
             refine tkD (i := 2) (d := some 62) (v := ?_) rfl rfl (Or.inl ⟨by rfl, ?_⟩) (by assumption) ?_
             rotate_left
             · intro w hSw; (try dsimp only at hSw); (go_simp <;> with_reducible rfl)
             try simp only [Qa, Qb, Qc, Qd]
             refine tkD (i := 3) (d := some 63) (v := ?_) rfl rfl (Or.inl ⟨by rfl, ?_⟩) (by assumption) ?_
             rotate_left
             · intro w hSw; (try dsimp only at hSw); (go_simp <;> with_reducible rfl)
             try simp only [Qa, Qb, Qc, Qd]
             refine tkD (i := 4) (d := some 64) (v := ?_) rfl rfl (Or.inl ⟨by rfl, ?_⟩) (by assumption) ?_
             rotate_left
             · intro w hSw; (try dsimp only at hSw); (go_simp <;> with_reducible rfl)
             try simp only [Qa, Qb, Qc, Qd]
             refine tkD (i := 5) (d := some 65) (v := ?_) rfl rfl (Or.inl ⟨by rfl, ?_⟩) (by assumption) ?_
             rotate_left
             · intro w hSw; (try dsimp only at hSw); (go_simp <;> with_reducible rfl)
             try simp only [Qa, Qb, Qc, Qd]
             refine tkD (i := 6) (d := some 66) (v := ?_) rfl rfl (Or.inl ⟨by rfl, ?_⟩) (by assumption) ?_
             rotate_left
             · intro w hSw; (try dsimp only at hSw); (go_simp <;> with_reducible rfl)
             try simp only [Qa, Qb, Qc, Qd]
             refine tkD (i := 7) (d := some 67) (v := ?_) rfl rfl (Or.inl ⟨by rfl, ?_⟩) (by assumption) ?_
             rotate_left
             · intro w hSw; (try dsimp only at hSw); (go_simp <;> with_reducible rfl)
             try simp only [Qa, Qb, Qc, Qd]
             refine tkD (i := 8) (d := some 68) (v := ?_) rfl rfl (Or.inl ⟨by rfl, ?_⟩) (by assumption) ?_
             rotate_left
             · intro w hSw; (try dsimp only at hSw); (go_simp <;> with_reducible rfl)
             try simp only [Qa, Qb, Qc, Qd]
             refine tkD (i := 9) (d := some 69) (v := ?_) rfl rfl (Or.inl ⟨by rfl, ?_⟩) (by assumption) ?_
             rotate_left
             · intro w hSw; (try dsimp only at hSw); (go_simp <;> with_reducible rfl)
             try simp only [Qa, Qb, Qc, Qd]
             refine tkD (i := 10) (d := some 70) (v := ?_) rfl rfl (Or.inl ⟨by rfl, ?_⟩) (by assumption) ?_
             rotate_left
             · intro w hSw; (try dsimp only at hSw); (go_simp <;> with_reducible rfl)
             try simp only [Qa, Qb, Qc, Qd]
             refine tkD (i := 11) (d := some 71) (v := ?_) rfl rfl (Or.inl ⟨by rfl, ?_⟩) (by assumption) ?_
             rotate_left
             · intro w hSw; (try dsimp only at hSw); (go_simp <;> with_reducible rfl)
             try simp only [Qa, Qb, Qc, Qd]
             refine tkD (i := 12) (d := some 72) (v := ?_) rfl rfl (Or.inl ⟨by rfl, ?_⟩) (by assumption) ?_
             rotate_left
             · intro w hSw; (try dsimp only at hSw); (go_simp <;> with_reducible rfl)
             try simp only [Qa, Qb, Qc, Qd]
             refine tkD (i := 14) (d := some 74) (v := ?_) rfl rfl (Or.inl ⟨by rfl, ?_⟩) (by assumption) ?_
             rotate_left
             · intro w hSw; (try dsimp only at hSw); (go_simp <;> with_reducible rfl)
             try simp only [Qa, Qb, Qc, Qd]
             refine tkD (i := 15) (d := some 75) (v := ?_) rfl rfl (Or.inl ⟨by rfl, ?_⟩) (by assumption) ?_
             rotate_left
             · intro w hSw; (try dsimp only at hSw); (go_simp <;> with_reducible rfl)
             try simp only [Qa, Qb, Qc, Qd]
             refine tkD (i := 16) (d := some 76) (v := ?_) rfl rfl (Or.inl ⟨by rfl, ?_⟩) (by assumption) ?_
             rotate_left
             · intro w hSw; (try dsimp only at hSw); (go_simp <;> with_reducible rfl)
             try simp only [Qa, Qb, Qc, Qd]
             refine tkD (i := 17) (d := some 77) (v := ?_) rfl rfl (Or.inl ⟨by rfl, ?_⟩) (by assumption) ?_
             rotate_left
             · intro w hSw; (try dsimp only at hSw); (go_simp <;> with_reducible rfl)
             try simp only [Qa, Qb, Qc, Qd]
             refine tkD (i := 18) (d := some 78) (v := ?_) rfl rfl (Or.inl ⟨by rfl, ?_⟩) (by assumption) ?_
             rotate_left
             · intro w hSw; (try dsimp only at hSw); (go_simp <;> with_reducible rfl)
             try simp only [Qa, Qb, Qc, Qd]
             refine tkD (i := 19) (d := some 79) (v := ?_) rfl rfl (Or.inl ⟨by rfl, ?_⟩) (by assumption) ?_
             rotate_left
             · intro w hSw; (try dsimp only at hSw); (go_simp <;> with_reducible rfl)
             try simp only [Qa, Qb, Qc, Qd]
             refine tkD (i := 20) (d := some 80) (v := ?_) rfl rfl (Or.inl ⟨by rfl, ?_⟩) (by assumption) ?_
             rotate_left
             · intro w hSw; (try dsimp only at hSw); (go_simp <;> with_reducible rfl)
             try simp only [Qa, Qb, Qc, Qd]
             refine tkD (i := 21) (d := some 81) (v := ?_) rfl rfl (Or.inl ⟨by rfl, ?_⟩) (by assumption) ?_
             rotate_left
             · intro w hSw; (try dsimp only at hSw); (go_simp <;> with_reducible rfl)
             try simp only [Qa, Qb, Qc, Qd]
             refine tkD (i := 22) (d := some 82) (v := ?_) rfl rfl (Or.inl ⟨by rfl, ?_⟩) (by assumption) ?_
             rotate_left
             · intro w hSw; (try dsimp only at hSw); (go_simp <;> with_reducible rfl)
             try simp only [Qa, Qb, Qc, Qd]
             refine tkD (i := 23) (d := some 83) (v := ?_) rfl rfl (Or.inl ⟨by rfl, ?_⟩) (by assumption) ?_
             rotate_left
             · intro w hSw; (try dsimp only at hSw); (go_simp <;> with_reducible rfl)
             try simp only [Qa, Qb, Qc, Qd]
             refine tkD (i := 24) (d := some 84) (v := ?_) rfl rfl (Or.inl ⟨by rfl, ?_⟩) (by assumption) ?_
             rotate_left
             · intro w hSw; (try dsimp only at hSw); (go_simp <;> with_reducible rfl)
             try simp only [Qa, Qb, Qc, Qd]
             refine tkD (i := 25) (d := some 85) (v := ?_) rfl rfl (Or.inl ⟨by rfl, ?_⟩) (by assumption) ?_
             rotate_left
             · intro w hSw; (try dsimp only at hSw); (go_simp <;> with_reducible rfl)
             try simp only [Qa, Qb, Qc, Qd]
             refine wpAnyH_ready (rs := [13]) (by kernel_rfl) (by simp) ?_
             refine AllReadyH.cons (o := _) rfl (fun K hK => ?_) AllReadyH.nil
             go_simp
             refine hK.out _ _ ?_ (fun hHeld => ?_)
             · exact ⟨g3, x3, cx, cm⟩
             clear hK K
             try simp only [Qa, Qb, Qc, Qd]
             refine tkD (i := 26) (d := some 86) (v := ?_) rfl rfl (Or.inl ⟨by rfl, ?_⟩) (by assumption) ?_
             rotate_left
             · intro w hSw; (try dsimp only at hSw); (go_simp <;> with_reducible rfl)
             try simp only [Qa, Qb, Qc, Qd]
             refine tkD (i := 27) (d := some 87) (v := ?_) rfl rfl (Or.inl ⟨by rfl, ?_⟩) (by assumption) ?_
             rotate_left
             · intro w hSw; (try dsimp only at hSw); (go_simp <;> with_reducible rfl)
             try simp only [Qa, Qb, Qc, Qd]
             try simp only [show ∀ a b : Int, max a b = if a < b then b else a from fun a b => by split <;> omega, show ∀ a b : Int, min a b = if b < a then b else a from fun a b => by split <;> omega]
             generalize hmi : (if (f' rs[k].args[j] : Int) < if (M rs[k].args[j] : Int) < R then (M rs[k].args[j] : Int) else R then if (M rs[k].args[j] : Int) < R then (M rs[k].args[j] : Int) else R else (f' rs[k].args[j] : Int)) = mi
             obtain ⟨m, rfl, hfm, hm5', hm1⟩ : ∃ m : Nat, mi = (m : Int) /\ f' rs[k].args[j] <= m /\ m <= 5 /\ (1 <= R -> 1 <= m) := by
               refine ⟨mi.toNat, ?_, ?_, ?_, ?_⟩
               all_goals (split at hmi <;> (try split at hmi) <;> omega)
             clear hmi
             refine wpAnyH_ready (rs := [28]) (by kernel_rfl) (by simp) ?_
             refine AllReadyH.cons (o := _) rfl (fun K hK => ?_) AllReadyH.nil
             go_simp
             refine hK.out _ _ ?_ (fun hHeld => ?_)
             · exact ⟨(World.cell?_of_block (Below.heap_setCell _ _ _ _ (show w.heap.size ≠ w.heap.size + 1 by omega))).trans g3, (World.cell?_of_block (Below.heap_setCell _ _ _ _ (show xb ≠ w.heap.size + 1 by omega))).trans x3, (World.cell?_of_block (Below.heap_setCell _ _ _ _ (show ab ≠ w.heap.size + 1 by omega))).trans cx, (World.cell?_of_block (Below.heap_setCell _ _ _ _ (show sb ≠ w.heap.size + 1 by omega))).trans cm⟩
             clear hK K
             try simp only [Qa, Qb, Qc, Qd]
             refine wpAnyH_done (by kernel_rfl) ?_ _
             have HG4 := (HG.set (b := w.heap.size + 1) (i := rs[k].args[j]) (v := .int .i64 m) (by omega)).drew'
             have HB4 : BoxIs (wr.setCell ⟨w.heap.size + 1, rs[k].args[j], none⟩ (.int .i64 m)).drew xb 76 #[.int .i64 rs[k].h, .string rs[k].op, .string rs[k].pa, .slice (some ⟨ab, ao, none⟩) rs[k].args.length ac] := by
               show (wr.setCell ⟨w.heap.size + 1, rs[k].args[j], none⟩ (.int .i64 m)).heap[xb]? = _; rw [Below.heap_setCell _ _ _ _ (show xb ≠ w.heap.size + 1 by omega)]; exact HB
             have hN4 := (hN.set (m := m) hba).below (B := w.heap.size + 2) (by omega) ((Below.refl _ _).drew)
             have hK4 := hK.up hfm hm5'
             have HU4 : Hid (1 <= j + 1 -> rs[k].h = S.st -> 2 <= M S.st -> ∀ a, rs[k].args = [a] -> 1 <= (fun i => if i = rs[k].args[j] then m else f' i) a) := Lib.hid fun _ hs h2 a ha => by
               have hl : rs[k].args.length = 1 := by rw [ha]; rfl
               have hR1 := hR.out
               have hlo := HKL.out
               rw [← hs] at hlo h2
               have e : rs[k].args[j] = a := by
                 have : j = 0 := by omega
                 subst this
                 simp [ha]
               simp only [e, if_true]
               exact hm1 (by rw [hl] at hR1; omega)
             clear HG HB hN hK HU cx cm co fo g3 x3 hHeld
             generalize (wr.setCell ⟨w.heap.size + 1, rs[k].args[j], none⟩ (.int .i64 m)).drew = w5 at *
             generalize (fun i => if i = rs[k].args[j] then m else f' i) = f5 at *
             go_wp2
             go_roundw
             case rel => first | exact ⟨j + 1, f5, by omega, by go_num, HG4, HB4, hN4, hK4, HU4⟩ | ((repeat apply Exists.intro); refine ⟨?_, rfl⟩; exact ⟨j + 1, f5, by omega, by go_num, HG4, HB4, hN4, hK4, HU4⟩)
             case measure => simp [intOf]; omega
           · obtain rfl : j = rs[k].args.length := by omega
             obtain ⟨d', hd', hK'⟩ := hK.step hltk hkd (fun hs h2 a ha => HU.out (by rw [ha]; simp) hs h2 a ha)
             go_wp2
             exact ⟨⟨k + 1, d', f', by omega, by go_num, hd', HG, hN, hK'⟩, by simp [intOf]; omega⟩
       · obtain rfl : k = rs.length := by omega
         have j2 : ¬ (rs.length : Int) < (rs.length : Int) := by omega
         go_wp2
         exact ⟨⟨t + 1, d, f, by omega, by go_num, fun _ => hkd, HG, hN, hK⟩, by simp [intOf]; omega⟩
   · have j0 : ¬ (t : Int) < (S.syms.length : Int) + 1 := by omega
     obtain rfl : t = S.syms.length + 1 := by omega
     go_wp2
     go_ret
     exact ⟨⟨_, f, rfl, hN, ⟨hK.le, hK.lo, fun j hj _ => hK.un j hj (by have := hd (by omega); omega)⟩⟩, HG.b⟩
end
end Go.EvPart
