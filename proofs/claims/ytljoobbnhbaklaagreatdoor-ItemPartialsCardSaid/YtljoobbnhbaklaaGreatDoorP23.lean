/- ItemPartials, one part of the proof: PartI3, PartI4, PartJ1, PartR1. -/
import Derived.Test.YtljoobbnhbaklaaGreatDoorP22
import Derived.Test.YtljoobbnhbaklaaGreatDoorP00
set_option linter.all false
set_option maxRecDepth 100000
set_option maxHeartbeats 16000000
namespace Go.EvPart
open Go Go.Proofs Go.RowKit Go.EvNil
def hdOf (rs : List Rl) (x : Int) : Nat := match rs[x.toNat]? with
 | some r => r.h
 | none => 0
def beside (rs : List Rl) (p : List Int) : List Int -> Nat -> Option Nat
 | [], a => some a
 | r :: q, a => match p[a]? with
   | none => none
   | some x => if r = -1 then (match eat rs [hdOf rs x] (p.drop a) with | some m => beside rs p q (a + m) | none => none) else if r = x then beside rs p q (a + 1) else none
section
variable {S : Sample} {M : Nat -> Nat} {rs : List Rl} {ca sa : Option Addr} {cc sc rb ro rc : Nat} {w : World}
theorem fits_prog (h : Gr S M rs ca sa cc sc rb ro rc w) (pa ta : Option Addr) (pc tc n : Nat) (p t : List Int) (hp : ListAt w pa p) (ht : ListAt w ta t) (hP : Prg rs M S.st n p) (htn : t.length <= 100) (hT : eat rs [S.st] t = some t.length) (r : Bool) (hr : r = true ↔ beside rs p t 0 = some p.length) :
   Calls Tryz.prog 22 #[.agg (gA S rs ca sa cc sc rb ro rc), .slice pa p.length pc, .slice ta t.length tc] w fun e w' => e = .returned (.bool r) /\ Below w.heap.size w w' := by
 have hle : p.length <= 5 := by rw [hP.len]; exact Nat.le_trans hP.le (h.lim _).2
 have HC := Lib.hid (fun W (hW : Below w.heap.size w W) => check_yes (h.below hW) pa pc n p (hp.below hW) hP)
 have HT := Lib.hid (fun W (hW : Below w.heap.size w W) => isTermOf_any (h.below hW) ta tc t S.st (ht.below hW) htn true (by simp [hT]))
 have HE := Lib.hid (fun W (hW : Below w.heap.size w W) k s (hk : k <= 100) => end_any (.string S.nm) (.int .i64 S.ver) (.slice ca S.cols.length cc) (.slice sa S.syms.length sc) (.int .i64 S.st) rs rb ro rc pa pc p k s W (h.r.below hW) (hp.below hW) h.al h.rn (by omega) hk)
 have HX := GB.new w (gA S rs ca sa cc sc rb ro rc)
 have HS := Lib.hid hP.sub
 have HP := Lib.hid (fun W (hW : Below w.heap.size w W) => hp.below hW)
 have HTT := Lib.hid (fun W (hW : Below w.heap.size w W) => ht.below hW)
 have HR := Lib.hid (fun W (hW : Below w.heap.size w W) => h.r.below hW)
 have hrn := h.rn
 have HQ := Lib.hid hr
 clear h hp hP ht hT hr
 go_enter Tryz.func22, Tryz.ntmps22
 go_wp2_with (first
   | (go_at_call 21; refine (HC.out _ HX.b).mono ?_; rintro e w1 ⟨rfl, hb1⟩; have HX1 := HX.below hb1; have g0 := cellOf (i := 0) HX1.g rfl; have g1 := cellOf (i := 1) HX1.g rfl; have g2 := cellOf (i := 2) HX1.g rfl; have g3 := cellOf (i := 3) HX1.g rfl; have g4 := cellOf (i := 4) HX1.g rfl; have g5 := cellOf (i := 5) HX1.g rfl)
   | (have _ := g5; go_at_call 47; refine (HT.out _ HX1.b).mono ?_; rintro e w2 ⟨rfl, hb2⟩; have HX2 := HX1.below hb2))
 clear HX HX1 HT HC hb1 hb2 g0 g1 g2 g3 g4 g5
 go_loopw [7, 9, 24] (fun v _ i wr => ∃ k a : Nat, k <= t.length /\ a <= p.length /\ i = .int .i64 k /\ v = .int .i64 a /\ GB w (gA S rs ca sa cc sc rb ro rc) wr /\ Hid (beside rs p t 0 = beside rs p (t.drop k) a)) (fun _ _ i _ => t.length - (intOf i).toNat)
 case atStart => exact ⟨0, 0, Nat.zero_le _, Nat.zero_le _, rfl, rfl, HX2, Lib.hid rfl⟩
 case round =>
   clear HX2
   obtain ⟨k, a, hk, ha, rfl, rfl, hg, HB⟩ := hrel
   by_cases hlt : k < t.length
   · obtain ⟨tb, to1, rfl, htb, htc⟩ := HTT.out _ hg.b (by omega)
     have ct := htc k hlt
     have i1 : (0 : Int) <= (k : Int) := by omega
     have i2 : (k : Int) < (t.length : Int) := by omega
     have hb := HB.out
     rw [List.drop_eq_getElem_cons hlt] at hb
     clear htc HB
     by_cases hA : a < p.length
     · obtain ⟨x, hx, hpx, m, hm, hmM⟩ := HS.out a hA
       have hbe : beside rs p (t[k] :: t.drop (k + 1)) a = if t[k] = -1 then beside rs p (t.drop (k + 1)) (a + m) else if t[k] = (x : Int) then beside rs p (t.drop (k + 1)) (a + 1) else none := by
         rw [beside, hpx]
         have : hdOf rs (x : Int) = rs[x].h := by simp [hdOf, hx]
         simp only [this, hm]
       rw [hbe] at hb
       clear hbe
       have hma : a + m <= p.length := by have := eat_le rs _ _ _ hm; rw [List.length_drop] at this; omega
       obtain ⟨pb, po, rfl, hpb, hpc⟩ := HP.out _ hg.b (by omega)
       have cp := hpc a hA
       rw [(List.getElem?_eq_some_iff.1 hpx).2] at cp
       have j1 : (0 : Int) <= (a : Int) := by omega
       have j2 : (a : Int) < (p.length : Int) := by omega
       have j3 : (0 : Int) <= (x : Int) := by omega
       have j4 : (x : Int) < (rs.length : Int) := by omega
       have j5 : decide ((p.length : Int) <= (a : Int)) = false := by simp; omega
       obtain ⟨rb', ro', e', hrb, hrc⟩ := HR.out _ hg.b
       cases e'
       obtain ⟨aa, ac, hr⟩ := hrc x hx
       have q0 := hr.c0
       have HEk := Lib.hid (fun W (hW : Below w.heap.size w W) => HE.out W hW a rs[x].h (by omega) (.tuple #[.int .i64 ((a + m : Nat) : Int), .bool true]) (fun n hn => by rw [hm] at hn; cases hn; rfl) (fun hn => by rw [hm] at hn; cases hn))
       have g0 := cellOf (i := 0) hg.g rfl
       have g1 := cellOf (i := 1) hg.g rfl
       have g2 := cellOf (i := 2) hg.g rfl
       have g3 := cellOf (i := 3) hg.g rfl
       have g4 := cellOf (i := 4) hg.g rfl
       have g5 := cellOf (i := 5) hg.g rfl
       have lg := heap_lt' hg.g
       clear hpc hrc hr hm hpx
       by_cases hT : t[k] = -1
       · rw [hT] at ct
         rw [if_pos hT] at hb
         have HB := Lib.hid hb
         clear hb hT
         go_upto_region 11 with fail
         go_region_held3 (fun W => W.cell? ⟨w.heap.size, 0, none⟩ = some (.string S.nm) /\ W.cell? ⟨w.heap.size, 1, none⟩ = some (.int .i64 S.ver) /\ W.cell? ⟨w.heap.size, 2, none⟩ = some (.slice ca S.cols.length cc) /\ W.cell? ⟨w.heap.size, 3, none⟩ = some (.slice sa S.syms.length sc) /\ W.cell? ⟨w.heap.size, 4, none⟩ = some (.slice (some ⟨rb, ro, none⟩) rs.length rc) /\ W.cell? ⟨w.heap.size, 5, none⟩ = some (.int .i64 S.st) /\ W.cell? ⟨pb, po + a, none⟩ = some (.int .i64 x) /\ W.cell? ⟨rb, ro + x * 4, none⟩ = some (.int .i64 rs[x].h)) (first | exact ⟨g0, g1, g2, g3, g4, g5, cp, q0⟩ | exact ⟨y0, y1, y2, y3, y4, y5, y6, y7⟩ | go_keep) (first | (go_at_call 49; refine (HEk.out _ (by first | exact hg.b.drew | exact hg.b)).mono ?_; rintro e w3 ⟨rfl, hb3⟩; have hg3 := hg.below (((Below.refl _ _).drew).trans hb3); have y0 := cellOf (i := 0) hg3.g rfl; have y1 := cellOf (i := 1) hg3.g rfl; have y2 := cellOf (i := 2) hg3.g rfl; have y3 := cellOf (i := 3) hg3.g rfl; have y4 := cellOf (i := 4) hg3.g rfl; have y5 := cellOf (i := 5) hg3.g rfl; have y6 : w3.cell? ⟨pb, po + a, none⟩ = some (.int .i64 x) := (by rw [hb3.cell hpb]; exact cp); have y7 : w3.cell? ⟨rb, ro + x * 4, none⟩ = some (.int .i64 rs[x].h) := (by rw [hb3.cell hrb]; exact q0)))
         all_goals (
           go_wp2
           have e1 : (a : Int) + (m : Int) = ((a + m : Nat) : Int) := by omega
           exact ⟨⟨k + 1, a + m, by omega, hma, by go_num, by go_num, hg3, HB⟩, by simp [intOf]; omega⟩)
       · have e0 : (t[k] == -1) = false := by simpa using hT
         rw [if_neg hT] at hb
         by_cases hX : t[k] = (x : Int)
         · rw [if_pos hX] at hb
           have HB := Lib.hid hb
           rw [hX] at ct e0
           have e1 : ((x : Int) != (x : Int)) = false := by simp
           have j6 : (a : Int) <= 5 := by omega
           clear hb hX hT HEk
           go_wp2
           exact ⟨⟨k + 1, a + 1, by omega, by omega, by go_num, by go_num, hg, HB⟩, by simp [intOf]; omega⟩
         · rw [if_neg hX] at hb
           obtain rfl : r = false := by
             cases r
             · rfl
             · have := HQ.out.1 rfl; rw [hb] at this; cases this
           have e1 : (t[k] != (x : Int)) = true := by simpa using hX
           clear hb hX hT HEk HQ
           go_wp2
           go_ret
           exact ⟨rfl, hg.b⟩
     · rw [beside, List.getElem?_eq_none (by omega)] at hb
       obtain rfl : r = false := by
         cases r
         · rfl
         · have := HQ.out.1 rfl; rw [hb] at this; cases this
       have j5 : decide ((p.length : Int) <= (a : Int)) = true := by simp; omega
       clear hb HQ
       go_wp2
       go_ret
       exact ⟨rfl, hg.b⟩
   · have i2 : ¬ (k : Int) < (t.length : Int) := by omega
     have hb := HB.out
     rw [List.drop_eq_nil_of_le (by omega), beside] at hb
     by_cases hA : a = p.length
     · obtain rfl : r = true := HQ.out.2 (by rw [hb, hA])
       have e1 : ((a : Int) == (p.length : Int)) = true := by simp [hA]
       clear hb HQ hA HB
       go_wp2
       go_ret
       exact ⟨rfl, hg.b⟩
     · obtain rfl : r = false := by
         cases r
         · rfl
         · have := HQ.out.1 rfl; rw [hb] at this; cases this; exact absurd rfl hA
       have e1 : ((a : Int) == (p.length : Int)) = false := by simp; omega
       clear hb HQ HB
       go_wp2
       go_ret
       exact ⟨rfl, hg.b⟩
end
end Go.EvPart
namespace Go.EvPart
open Go Go.Proofs Go.RowKit Go.EvNil
section
variable {S : Sample} {M : Nat -> Nat} {rs : List Rl} {ca sa : Option Addr} {cc sc rb ro rc : Nat} {w : World}
theorem eat_first {st : Nat} {p : List Int} (h : eat rs [st] p = some p.length) : ∃ x q, p = x :: q /\ (x = -1 ∨ ∃ (k : Nat) (hk : k < rs.length), x = k /\ rs[k].h = st) := by
 obtain ⟨x, q, rfl, h⟩ := eat_some h
 refine ⟨x, q, rfl, ?_⟩
 rcases h with ⟨rfl, _⟩ | ⟨k, hk, rfl, hs, _⟩
 · exact .inl rfl
 · exact .inr ⟨k, hk, rfl, hs⟩
attribute [local irreducible] wpStill in
theorem symbolOf_yes (h : Gr S M rs ca sa cc sc rb ro rc w) (pa : Option Addr) (pc : Nat) (p : List Int) (hp : ListAt w pa p) (hpn : p.length <= 100) (hE : eat rs [S.st] p = some p.length) :
   Calls Tryz.prog 50 #[.agg (gA S rs ca sa cc sc rb ro rc), .slice pa p.length pc] w fun e w' => e = .returned (.tuple #[.int .i64 S.st, .bool true]) /\ Below w.heap.size w w' := by
 have HT := Lib.hid (fun W (hW : Below w.heap.size w W) => isTermOf_any (h.below hW) pa pc p S.st (hp.below hW) hpn true (by simp [hE]))
 have HX := GB.new w (gA S rs ca sa cc sc rb ro rc)
 obtain ⟨x, q, rfl, hx⟩ := eat_first hE
 obtain ⟨pb, po, rfl, hpb, hpc⟩ := hp (by simp)
 have cp := hpc 0 (by simp)
 rw [List.getElem_cons_zero, Nat.add_zero] at cp
 rw [List.length_cons] at hpn
 have hql : q.length <= 99 := by omega
 have i2 : (0 : Int) < (q.length : Int) + 1 := by omega
 have z0 : ((q.length : Int) + 1 == 0) = false := by simp; omega
 have hrn := h.rn
 have HR := h.r
 clear hpc hE h hp hpn
 rcases hx with rfl | ⟨k, hk, rfl, hs⟩
 · clear HR
   rw [List.length_cons] at *
   go_enter Tryz.func50, Tryz.ntmps50
   go_wp2
   have HX2 := HX.below ((Below.refl _ _).drew)
   have cp2 : (w.alloc (Obj.cells (gA S rs ca sa cc sc rb ro rc) 29)).drew.cell? ⟨pb, po, none⟩ = _ := (HX2.b.cell hpb).trans cp
   refine wp_region_still_lit (by kernel_rfl) (by kernel_rfl) ?_
   change wpStill _ _ (w.alloc (Obj.cells (gA S rs ca sa cc sc rb ro rc) 29)).drew (fun a' => Exit.then _ _ Exit.normal a' (w.alloc (Obj.cells (gA S rs ca sa cc sc rb ro rc) 29)).drew) _ _
   clear HX
   generalize (w.alloc (Obj.cells (gA S rs ca sa cc sc rb ro rc) 29)).drew = w1 at *
   have g0 := cellOf (i := 0) HX2.g rfl
   have g1 := cellOf (i := 1) HX2.g rfl
   have g2 := cellOf (i := 2) HX2.g rfl
   have g3 := cellOf (i := 3) HX2.g rfl
   have g4 := cellOf (i := 4) HX2.g rfl
   have g5 := cellOf (i := 5) HX2.g rfl
   repeat still_step
   refine wpStill_nil ?_
   go_wp2_with (go_at_call 47; refine (HT.out _ HX2.b).mono ?_; rintro e w2 ⟨rfl, hb2⟩)
   go_ret2
   exact ⟨rfl, HX2.b.trans (hb2.mono HX2.b.size)⟩
 · obtain ⟨rb', ro', e', hrb, hrc⟩ := HR
   cases e'
   obtain ⟨aa, ac, hr⟩ := hrc k hk
   have q0 := hr.c0
   rw [hs] at q0
   clear hrc hr hs
   have i3 : (0 : Int) <= (k : Int) := by omega
   have i4 : (k : Int) < (rs.length : Int) := by omega
   have e0 : ((k : Int) != -1) = true := by simp <;> omega
   have e1 : ((k : Int) == -1) = false := by simp <;> omega
   have e2 : decide ((k : Int) < 0) = false := by simp
   have e3 : decide ((rs.length : Int) <= (k : Int)) = false := by simp; omega
   rw [List.length_cons] at *
   go_enter Tryz.func50, Tryz.ntmps50
   go_wp2
   have HX2 := HX.below ((Below.refl _ _).drew)
   have cp2 : (w.alloc (Obj.cells (gA S rs ca sa cc sc rb ro rc) 29)).drew.cell? ⟨pb, po, none⟩ = _ := (HX2.b.cell hpb).trans cp
   have q02 : (w.alloc (Obj.cells (gA S rs ca sa cc sc rb ro rc) 29)).drew.cell? ⟨rb, ro + k * 4, none⟩ = _ := (HX2.b.cell hrb).trans q0
   refine wp_region_still_lit (by kernel_rfl) (by kernel_rfl) ?_
   change wpStill _ _ (w.alloc (Obj.cells (gA S rs ca sa cc sc rb ro rc) 29)).drew (fun a' => Exit.then _ _ Exit.normal a' (w.alloc (Obj.cells (gA S rs ca sa cc sc rb ro rc) 29)).drew) _ _
   clear HX
   generalize (w.alloc (Obj.cells (gA S rs ca sa cc sc rb ro rc) 29)).drew = w1 at *
   have g0 := cellOf (i := 0) HX2.g rfl
   have g1 := cellOf (i := 1) HX2.g rfl
   have g2 := cellOf (i := 2) HX2.g rfl
   have g3 := cellOf (i := 3) HX2.g rfl
   have g4 := cellOf (i := 4) HX2.g rfl
   have g5 := cellOf (i := 5) HX2.g rfl
   repeat still_step
   refine wpStill_nil ?_
   go_wp2
   have HX3 := HX2.below ((Below.refl _ _).drew)
   have cp3 : w1.drew.cell? ⟨pb, po, none⟩ = _ := (HX3.b.cell hpb).trans cp
   have q03 : w1.drew.cell? ⟨rb, ro + k * 4, none⟩ = _ := (HX3.b.cell hrb).trans q0
   refine wp_region_still_lit (by kernel_rfl) (by kernel_rfl) ?_
   change wpStill _ _ w1.drew (fun a' => Exit.then _ _ Exit.normal a' w1.drew) _ _
   clear HX2 cp2 q02 g0 g1 g2 g3 g4 g5
   generalize w1.drew = w3 at *
   have g0 := cellOf (i := 0) HX3.g rfl
   have g1 := cellOf (i := 1) HX3.g rfl
   have g2 := cellOf (i := 2) HX3.g rfl
   have g3 := cellOf (i := 3) HX3.g rfl
   have g4 := cellOf (i := 4) HX3.g rfl
   have g5 := cellOf (i := 5) HX3.g rfl
   repeat still_step
   refine wpStill_nil ?_
   go_wp2_with (go_at_call 47; refine (HT.out _ HX3.b).mono ?_; rintro e w2 ⟨rfl, hb2⟩)
   go_ret2
   exact ⟨rfl, HX3.b.trans (hb2.mono HX3.b.size)⟩
end
end Go.EvPart
namespace Go.EvPart
open Go Go.Proofs Go.RowKit Go.EvNil
structure TS (w : World) (G : Array Value) (pv : Value) (bg bp b bw m n : Nat) (W : World) : Prop where
 o : Below w.heap.size w W
 g : BoxIs W bg 29 G
 p : BoxIs W bp 22 #[pv]
 f : BoxIs W bw 53 #[.func (.func 123) #[] #[.pointer (some ⟨bp, 0, none⟩), .pointer (some ⟨b, 0, none⟩), .pointer (some ⟨bg, 0, none⟩), .pointer (some ⟨bw, 0, none⟩)]]
 bl : Bld W b b m n
 l1 : w.heap.size <= b
 l2 : bg < b
 l3 : bp < b
 l4 : bw ≠ b
section
variable {w W W' : World} {G : Array Value} {pv : Value} {bg bp b bw m n m' n' : Nat}
theorem TS.below (h : TS w G pv bg bp b bw m n W) (hb : Below W.heap.size W W') : TS w G pv bg bp b bw m n W' :=
 ⟨h.o.trans (hb.mono h.o.size), h.g.below hb, h.p.below hb, h.f.below hb, h.bl.below hb, h.l1, h.l2, h.l3, h.l4⟩
theorem TS.weak (h : TS w G pv bg bp b bw m n W) (hm : m' <= m) (hn : n <= n') : TS w G pv bg bp b bw m' n' W := ⟨h.o, h.g, h.p, h.f, h.bl.weak hm hn, h.l1, h.l2, h.l3, h.l4⟩
theorem TS.wrote (h : TS w G pv bg bp b bw m n W) (hB : Bld W' b b m' n') (hb : Below b W W') (hk : Lib.OthersKept 5 (some b) W W') : TS w G pv bg bp b bw m' n' W' :=
 ⟨h.o.trans (hb.mono h.l1), BoxIs.kept h.g hk (by simpa using Nat.ne_of_lt h.l2) (by decide), BoxIs.kept h.p hk (by simpa using Nat.ne_of_lt h.l3) (by decide), BoxIs.kept h.f hk (by simpa using h.l4) (by decide), hB, h.l1, h.l2, h.l3, h.l4⟩
end
theorem run_sum1 (a : ByteArray) (h : a.size <= 20) : ∀ w, (Op.stringOp .add a ⟨#[35]⟩).run Tryz.prog w = .ok (.string (a ++ ⟨#[35]⟩)) w := fun w => by
 have z1 : ¬ (9223372036854775807 : Int) < (a.size : Int) + 1 := by omega
 unfold Op.stringOp
 go_simp
theorem run_sum2 (a s : ByteArray) (h : a.size <= 20) (hs : s.size <= 3) : ∀ w, (Op.stringOp .add (a ++ ⟨#[35]⟩) s).run Tryz.prog w = .ok (.string (a ++ ⟨#[35]⟩ ++ s)) w := fun w => by
 have z1 : ¬ (9223372036854775807 : Int) < (a.size : Int) + 1 + (s.size : Int) := by omega
 unfold Op.stringOp
 go_simp
theorem size_sum (a s : ByteArray) (h : a.size <= 20) (hs : s.size <= 3) : (a ++ ⟨#[35]⟩ ++ s).size <= 24 := by
 rw [ByteArray.size_append, ByteArray.size_append]; show a.size + 1 + s.size <= 24; omega
theorem eat_cons {rs : List Rl} {s : Nat} {ss : List Nat} {p : List Int} {d : Nat} (h : eat rs (s :: ss) p = some d) : ∃ k1 d1, eat rs [s] p = some k1 /\ eat rs ss (p.drop k1) = some d1 /\ d = k1 + d1 := by
 have h' : eat rs ([s] ++ ss) p = some d := h
 rw [eat_app] at h'
 cases h1 : eat rs [s] p with
 | none => rw [h1] at h'; cases h'
 | some k1 =>
   rw [h1] at h'
   obtain ⟨d1, hd, rfl⟩ := Option.map_eq_some_iff.1 h'
   exact ⟨k1, d1, rfl, hd, rfl⟩
theorem text1 (c0 c1 c2 c3 c5 : Value) (rs : List Rl) (rb ro rc : Nat) (pa : Option Addr) (pc : Nat) (p : List Int) (w : World) (hR : RulesAt w (some ⟨rb, ro, none⟩) rs) (hp : ListAt w pa p) (hal : ∀ r ∈ rs, r.args.length <= 3) (hop : ∀ r ∈ rs, r.op.size <= 20) (hrn : rs.length <= 40) (hpn : p.length <= 100) (bg bp b bw : Nat) :
   ∀ (N a s k m n : Nat) (W : World), p.length - a <= N -> eat rs [s] (p.drop a) = some k -> TS w #[c0, c1, c2, c3, .slice (some ⟨rb, ro, none⟩) rs.length rc, c5] (.slice pa p.length pc) bg bp b bw m n W -> n + 80 * k <= 100000 ->
     Calls Tryz.prog 123 #[.int .i64 a, .pointer (some ⟨bp, 0, none⟩), .pointer (some ⟨b, 0, none⟩), .pointer (some ⟨bg, 0, none⟩), .pointer (some ⟨bw, 0, none⟩)] W fun e W' => e = .returned (.int .i64 ((a + k : Nat) : Int)) /\ TS w #[c0, c1, c2, c3, .slice (some ⟨rb, ro, none⟩) rs.length rc, c5] (.slice pa p.length pc) bg bp b bw (m + 1) (n + 80 * k) W' /\ Lib.OthersKept 5 (some b) W W' /\ Below b W W' := by
 intro N
 induction N with
 | zero =>
   intro a s k m n W hN hE
   rw [List.drop_eq_nil_of_le (by omega), eat_end] at hE; cases hE
 | succ N IH =>
   intro a s k m n W hN hE hT hk
   obtain ⟨x, q, hx, hE1⟩ := eat_some hE
   clear hE
   have ha : a < p.length := by
     rcases Nat.lt_or_ge a p.length with h | h
     · exact h
     · rw [List.drop_eq_nil_of_le h] at hx; cases hx
   have hx' := List.drop_eq_getElem_cons ha
   rw [hx'] at hx
   injection hx with hx hq
   subst hq
   obtain ⟨pb, po, rfl, hpb, hpc⟩ := hp (by omega)
   have cp := (hT.o.cell hpb).trans (hpc a ha)
   have HP := Lib.hid (hpc a ha)
   rw [hx] at cp HP
   have i1 : (0 : Int) <= (a : Int) := by omega
   have i2 : (a : Int) < (p.length : Int) := by omega
   have i3 : (a : Int) <= 100 := by omega
   have p0 := cellOf (i := 0) hT.p rfl
   have g4 := cellOf (i := 4) hT.g rfl
   clear hx' hpc
   rcases hE1 with ⟨rfl, m0, rfl, hm0⟩ | ⟨r, hr, rfl, hs, k', rfl, hE⟩
   · rw [eat_nil] at hm0
     cases hm0
     have HB : Hid (Calls Tryz.prog 58 #[.pointer (some ⟨b, 0, none⟩), .int .u8 63] W fun e w' => e = .returned .nilIface /\ Bld w' b b (m + 1) (n + 1) /\ Below b W w' /\ Lib.OthersKept 5 (some b) W w') := Lib.hid (writeByte_any b b m n 63 W hT.bl (by omega))
     have HT := Lib.hid hT
     clear hT hp hR IH hN hx
     go_enter Tryz.func123, Tryz.ntmps123
     go_wp2_with (go_at_call 58; refine HB.out.mono ?_; rintro e w1 ⟨rfl, hB1, hb1, hk1⟩)
     go_ret
     exact ⟨rfl, (HT.out.wrote hB1 hb1 hk1).weak (by omega) (by omega), hk1, hb1⟩
   · rw [List.append_nil] at hE
     obtain ⟨rb', ro', e', hrb, hrc⟩ := hR
     cases e'
     obtain ⟨aa, ac, hrl⟩ := hrc r hr
     have hrl := hrl.below hrb hT.o
     have q0 := hrl.c0
     have q1 := hrl.c1
     have q2 := hrl.c2
     have q3 := hrl.c3
     have hal' := hal _ (List.getElem_mem hr)
     have hop' := hop _ (List.getElem_mem hr)
     have lb := hT.bl.lt
     have HT := Lib.hid hT
     have HE := Lib.hid hE
     have i4 : (0 : Int) <= (r : Int) := by omega
     have i5 : (r : Int) < (rs.length : Int) := by omega
     have e1 : ((r : Int) == -1) = false := by simp <;> omega
     have IH' := Lib.hid IH
     clear hrc hrl hT hp hE IH hx
     go_enter Tryz.func123, Tryz.ntmps123
     go_wp2
     go_region_held3 (fun X => X.cell? ⟨bg, 4, none⟩ = some (.slice (some ⟨rb, ro, none⟩) rs.length rc) /\ X.cell? ⟨bp, 0, none⟩ = some (.slice (some ⟨pb, po, none⟩) p.length pc) /\ X.cell? ⟨pb, po + a, none⟩ = some (.int .i64 r) /\ X.cell? ⟨rb, ro + r * 4, none⟩ = some (.int .i64 rs[r].h) /\ X.cell? ⟨rb, ro + r * 4 + 1, none⟩ = some (.string rs[r].op) /\ X.cell? ⟨rb, ro + r * 4 + 2, none⟩ = some (.string rs[r].pa) /\ X.cell? ⟨rb, ro + r * 4 + 3, none⟩ = some (.slice aa rs[r].args.length ac)) (first | exact ⟨g4, p0, cp, q0, q1, q2, q3⟩ | go_keep) (fail)
     have hb1 : Below W.heap.size W (W.alloc (.cells #[.int .i64 s, .string rs[r].op, .string rs[r].pa, .slice aa rs[r].args.length ac] 76)).drew := ((Below.refl W.heap.size W).alloc (Nat.le_refl _) _).drew
     have HT1 := HT.out.below hb1
     have HX1 : BoxIs (W.alloc (.cells #[.int .i64 s, .string rs[r].op, .string rs[r].pa, .slice aa rs[r].args.length ac] 76)).drew W.heap.size 76 #[.int .i64 s, .string rs[r].op, .string rs[r].pa, .slice aa rs[r].args.length ac] := (BoxIs.new W _ _).below ((Below.refl _ _).drew)
     have hk1 : Lib.OthersKept 5 (some b) W (W.alloc (.cells #[.int .i64 s, .string rs[r].op, .string rs[r].pa, .slice aa rs[r].args.length ac] 76)).drew := others_of hb1
     have hbb1 : Below b W (W.alloc (.cells #[.int .i64 s, .string rs[r].op, .string rs[r].pa, .slice aa rs[r].args.length ac] 76)).drew := hb1.mono (Nat.le_of_lt lb)
     have hxb : some W.heap.size ≠ some b := by simpa using Ne.symm (Nat.ne_of_lt lb)
     clear hb1 g4 p0 q0 q1 q2 q3 cp lb HT
     generalize (W.alloc (.cells #[.int .i64 s, .string rs[r].op, .string rs[r].pa, .slice aa rs[r].args.length ac] 76)).drew = w1 at *
     generalize W.heap.size = xb at *
     have cp := (HT1.o.cell hpb).trans HP.out
     have p0 := cellOf (i := 0) HT1.p rfl
     have x1 := cellOf (i := 1) HX1 rfl
     have HI := Lib.hid (fun X => itoa_any r X (by omega))
     have z1 := run_sum1 rs[r].op hop'
     have HW : Hid (∀ t : ByteArray, t.size <= 3 -> Calls Tryz.prog 57 #[.pointer (some ⟨b, 0, none⟩), .string (rs[r].op ++ ⟨#[35]⟩ ++ t)] w1.drew fun e w' => e = .returned (.tuple #[.int .i64 (rs[r].op ++ ⟨#[35]⟩ ++ t).size, .nilIface]) /\ TS w #[c0, c1, c2, c3, .slice (some ⟨rb, ro, none⟩) rs.length rc, c5] (.slice (some ⟨pb, po, none⟩) p.length pc) bg bp b bw (m + 1) (n + 24) w' /\ BoxIs w' xb 76 #[.int .i64 s, .string rs[r].op, .string rs[r].pa, .slice aa rs[r].args.length ac] /\ Lib.OthersKept 5 (some b) W w' /\ Below b W w') := by
       refine Lib.hid fun t ht => ?_
       have hsz := size_sum rs[r].op t hop' ht
       have h0 : 1 <= (rs[r].op ++ ⟨#[35]⟩ ++ t).size := by rw [ByteArray.size_append, ByteArray.size_append]; show 1 <= rs[r].op.size + 1 + t.size; omega
       have hT := HT1.below ((Below.refl _ _).drew)
       refine (writeString_any b b m n _ w1.drew hT.bl (by omega)).mono ?_
       rintro e w' ⟨he, hB, hb, hk⟩
       refine ⟨he, (hT.wrote hB hb hk).weak (by omega) (by omega), BoxIs.kept (show w1.drew.heap[xb]? = _ from HX1) hk hxb (by decide), hk1.trans hk, (hbb1.drew).trans hb⟩
     go_wp2
     go_region_held3 (fun X => X.cell? ⟨xb, 1, none⟩ = some (.string rs[r].op) /\ X.cell? ⟨bp, 0, none⟩ = some (.slice (some ⟨pb, po, none⟩) p.length pc) /\ X.cell? ⟨pb, po + a, none⟩ = some (.int .i64 r)) (first | exact ⟨x1, p0, cp⟩ | exact ⟨y0, y1, y2⟩ | go_keep) (first | (go_at_call 34; (with_reducible refine (HI.out _).mono ?_); rintro e w' ⟨⟨t, rfl, ht⟩, rfl⟩; have z2 := run_sum2 rs[r].op t hop' ht) | (go_at_call 57; refine (HW.out t ht).mono ?_; rintro e w3 ⟨rfl, HT3, HX3, hk3, hb3⟩; have y0 := cellOf (i := 1) HX3 rfl; have y1 := cellOf (i := 0) HT3.p rfl; have y2 := (HT3.o.cell hpb).trans HP.out))
     have x3 := cellOf (i := 3) HX3 rfl
     have HT3' := Lib.hid HT3
     clear HI HW z1 z2 x1 p0 cp y0 y1 y2 HT1 HX1 hk1 hbb1
     go_wp2
     go_loopw [0, 8, 40] (fun v _ i wr => ∃ j t d : Nat, j <= rs[r].args.length /\ i = .int .i64 j /\ v = .int .i64 t /\ a + 1 <= t /\ t + d = a + 1 + k' /\ Hid (eat rs (rs[r].args.drop j) (p.drop t) = some d) /\ Hid (TS w #[c0, c1, c2, c3, .slice (some ⟨rb, ro, none⟩) rs.length rc, c5] (.slice (some ⟨pb, po, none⟩) p.length pc) bg bp b bw (m + 1) (n + 24 + j + 80 * (t - (a + 1))) wr) /\ BoxIs wr xb 76 #[.int .i64 s, .string rs[r].op, .string rs[r].pa, .slice aa rs[r].args.length ac] /\ Hid (Lib.OthersKept 5 (some b) W wr) /\ Hid (Below b W wr)) (fun _ _ i _ => rs[r].args.length - (intOf i).toNat)
     case atStart => exact ⟨0, a + 1, k', Nat.zero_le _, rfl, by go_num, Nat.le_refl _, rfl, HE, Lib.hid (HT3.weak (by omega) (by omega)), HX3, Lib.hid hk3, Lib.hid hb3⟩
     case round =>
       clear HT3 HT3' HX3 hk3 hb3 x3 HE
       obtain ⟨j, t, d, hj, rfl, rfl, hat, htd, HE, HT, HX, HK, HBl⟩ := hrel
       by_cases hlt : j < rs[r].args.length
       · have j1 : (0 : Int) <= (j : Int) := by omega
         have j2 : (j : Int) < (rs[r].args.length : Int) := by omega
         have hE := HE.out
         rw [List.drop_eq_getElem_cons hlt] at hE
         obtain ⟨k1, d1, he1, he2, hd⟩ := eat_cons hE
         rw [List.drop_drop] at he2
         have HE2 := Lib.hid he2
         have HC : Hid (∀ X, TS w #[c0, c1, c2, c3, .slice (some ⟨rb, ro, none⟩) rs.length rc, c5] (.slice (some ⟨pb, po, none⟩) p.length pc) bg bp b bw (m + 1) (n + 24 + j + 1 + 80 * (t - (a + 1))) X -> Lib.OthersKept 5 (some b) W X -> Below b W X -> BoxIs X xb 76 #[.int .i64 s, .string rs[r].op, .string rs[r].pa, .slice aa rs[r].args.length ac] -> Calls Tryz.prog 123 #[.int .i64 t, .pointer (some ⟨bp, 0, none⟩), .pointer (some ⟨b, 0, none⟩), .pointer (some ⟨bg, 0, none⟩), .pointer (some ⟨bw, 0, none⟩)] X fun e w' => ∃ t' : Nat, e = .returned (.int .i64 t') /\ t' = t + k1 /\ Hid (TS w #[c0, c1, c2, c3, .slice (some ⟨rb, ro, none⟩) rs.length rc, c5] (.slice (some ⟨pb, po, none⟩) p.length pc) bg bp b bw (m + 1) (n + 24 + (j + 1) + 80 * (t' - (a + 1))) w') /\ BoxIs w' xb 76 #[.int .i64 s, .string rs[r].op, .string rs[r].pa, .slice aa rs[r].args.length ac] /\ Hid (Lib.OthersKept 5 (some b) W w') /\ Hid (Below b W w')) := by
           refine Lib.hid fun X hX hXk hXb hXx => ?_
           refine (IH'.out t rs[r].args[j] k1 (m + 1) _ X (by omega) he1 hX (by omega)).mono ?_
           rintro e w' ⟨he, hT', hk', hb'⟩
           exact ⟨t + k1, he, rfl, Lib.hid (hT'.weak (by omega) (by omega)), BoxIs.kept hXx hk' hxb (by decide), Lib.hid (hXk.trans hk'), Lib.hid (hXb.trans hb')⟩
         have HB : ∀ c : UInt8, Hid (Calls Tryz.prog 58 #[.pointer (some ⟨b, 0, none⟩), .int .u8 c.toNat] wr fun e w' => e = .returned .nilIface /\ TS w #[c0, c1, c2, c3, .slice (some ⟨rb, ro, none⟩) rs.length rc, c5] (.slice (some ⟨pb, po, none⟩) p.length pc) bg bp b bw (m + 1) (n + 24 + j + 1 + 80 * (t - (a + 1))) w' /\ Lib.OthersKept 5 (some b) W w' /\ Below b W w' /\ BoxIs w' xb 76 #[.int .i64 s, .string rs[r].op, .string rs[r].pa, .slice aa rs[r].args.length ac]) := fun c => by
           refine Lib.hid ?_
           refine (writeByte_any b b (m + 1) _ c wr HT.out.bl (by omega)).mono ?_
           rintro e w' ⟨he, hB, hb, hk⟩
           exact ⟨he, (HT.out.wrote hB hb hk).weak (by omega) (by omega), HK.out.trans hk, HBl.out.trans hb, BoxIs.kept HX hk hxb (by decide)⟩
         clear hE he1 he2 HE IH' HT HK HBl HX
         by_cases h0 : j = 0
         · have e0 : ((j : Int) == 0) = true := by simp [h0]
           have HB1 : Hid (Calls Tryz.prog 58 #[.pointer (some ⟨b, 0, none⟩), .int .u8 40] wr fun e w' => e = .returned .nilIface /\ TS w #[c0, c1, c2, c3, .slice (some ⟨rb, ro, none⟩) rs.length rc, c5] (.slice (some ⟨pb, po, none⟩) p.length pc) bg bp b bw (m + 1) (n + 24 + j + 1 + 80 * (t - (a + 1))) w' /\ Lib.OthersKept 5 (some b) W w' /\ Below b W w' /\ BoxIs w' xb 76 #[.int .i64 s, .string rs[r].op, .string rs[r].pa, .slice aa rs[r].args.length ac]) := HB 40
           clear HB h0
           go_wp2_with (first
             | (go_at_call 58; refine HB1.out.mono ?_; rintro e w4 ⟨rfl, hT4, hk4, hb4, hX4⟩; have f0 := cellOf (i := 0) hT4.f rfl)
             | (have _ := f0; go_at_call 123; refine (HC.out _ hT4 hk4 hb4 hX4).mono ?_; rintro e w5 ⟨t', rfl, ht', HT5, HX5, HK5, HB5⟩))
           go_roundw
           case rel => first | exact ⟨j + 1, t', d1, by omega, by go_num, by rw [ht']; go_num, by omega, by omega, by rw [ht']; exact HE2, HT5, HX5, HK5, HB5⟩ | ((repeat apply Exists.intro); refine ⟨?_, rfl⟩; exact ⟨j + 1, t', d1, by omega, by go_num, by rw [ht']; go_num, by omega, by omega, by rw [ht']; exact HE2, HT5, HX5, HK5, HB5⟩)
           case measure => simp [intOf]; omega
         · have e0 : ((j : Int) == 0) = false := by simp [h0]
           have HB1 : Hid (Calls Tryz.prog 58 #[.pointer (some ⟨b, 0, none⟩), .int .u8 44] wr fun e w' => e = .returned .nilIface /\ TS w #[c0, c1, c2, c3, .slice (some ⟨rb, ro, none⟩) rs.length rc, c5] (.slice (some ⟨pb, po, none⟩) p.length pc) bg bp b bw (m + 1) (n + 24 + j + 1 + 80 * (t - (a + 1))) w' /\ Lib.OthersKept 5 (some b) W w' /\ Below b W w' /\ BoxIs w' xb 76 #[.int .i64 s, .string rs[r].op, .string rs[r].pa, .slice aa rs[r].args.length ac]) := HB 44
           clear HB h0
           go_wp2_with (first
             | (go_at_call 58; refine HB1.out.mono ?_; rintro e w4 ⟨rfl, hT4, hk4, hb4, hX4⟩; have f0 := cellOf (i := 0) hT4.f rfl)
             | (have _ := f0; go_at_call 123; refine (HC.out _ hT4 hk4 hb4 hX4).mono ?_; rintro e w5 ⟨t', rfl, ht', HT5, HX5, HK5, HB5⟩))
           go_roundw
           case rel => first | exact ⟨j + 1, t', d1, by omega, by go_num, by rw [ht']; go_num, by omega, by omega, by rw [ht']; exact HE2, HT5, HX5, HK5, HB5⟩ | ((repeat apply Exists.intro); refine ⟨?_, rfl⟩; exact ⟨j + 1, t', d1, by omega, by go_num, by rw [ht']; go_num, by omega, by omega, by rw [ht']; exact HE2, HT5, HX5, HK5, HB5⟩)
           case measure => simp [intOf]; omega
       · have j2 : ¬ (j : Int) < (rs[r].args.length : Int) := by omega
         have hE := HE.out
         rw [List.drop_eq_nil_of_le (by omega), eat_nil] at hE
         have hd0 : d <= 0 := by cases hE; exact Nat.le_refl _
         have x3 := cellOf (i := 3) HX rfl
         clear hE HE
         by_cases h0 : rs[r].args.length = 0
         · have e0 : decide ((0 : Int) < (rs[r].args.length : Int)) = false := by simp [h0]
           have e2 : ¬ (0 : Int) < (rs[r].args.length : Int) := by omega
           go_wp2
           go_ret
           exact ⟨by have ht : t = a + (k' + 1) := by omega
                     rw [ht]; rfl, HT.out.weak (by omega) (by omega), HK.out, HBl.out⟩
         · have e2 : (0 : Int) < (rs[r].args.length : Int) := by omega
           have HB1 : Hid (Calls Tryz.prog 58 #[.pointer (some ⟨b, 0, none⟩), .int .u8 41] wr fun e w' => e = .returned .nilIface /\ Bld w' b b (m + 1 + 1) (n + 24 + j + 80 * (t - (a + 1)) + 1) /\ Below b wr w' /\ Lib.OthersKept 5 (some b) wr w') := Lib.hid (writeByte_any b b (m + 1) _ 41 wr HT.out.bl (by omega))
           go_wp2_with (go_at_call 58; refine HB1.out.mono ?_; rintro e w4 ⟨rfl, hB4, hb4, hk4⟩)
           go_ret
           exact ⟨by have ht : t = a + (k' + 1) := by omega
                     rw [ht]; rfl, (HT.out.wrote hB4 hb4 hk4).weak (by omega) (by omega), HK.out.trans hk4, HBl.out.trans hb4⟩
end Go.EvPart
namespace Go.EvPart
open Go Go.Proofs Go.RowKit Go.EvNil
attribute [local irreducible] wpStill in
theorem term_ref (c0 c1 c2 c3 c5 : Value) (rs : List Rl) (rb ro rc : Nat) (pa : Option Addr) (pc : Nat) (p : List Int) (w : World) (hR : RulesAt w (some ⟨rb, ro, none⟩) rs) (hp : ListAt w pa p) (hal : ∀ r ∈ rs, r.args.length <= 3) (hrn : rs.length <= 40) (hpn : p.length <= 100) :
   ∀ (N a s k : Nat) (W : World), p.length - a <= N -> eat rs [s] (p.drop a) = some k -> Below w.heap.size w W ->
     Calls Tryz.prog 26 #[.agg #[c0, c1, c2, c3, .slice (some ⟨rb, ro, none⟩) rs.length rc, c5], .slice pa p.length pc, .int .i64 a, .int .i64 s] W fun e W' => e = .returned (.tuple #[.int .i64 ((a + k : Nat) : Int), .bool true]) /\ Below W.heap.size W W' := by
 intro N
 induction N with
 | zero =>
   intro a s k W hN hE
   rw [List.drop_eq_nil_of_le (by omega), eat_end] at hE; cases hE
 | succ N IH =>
   intro a s k W hN hE hW
   obtain ⟨x, q, hx, hE1⟩ := eat_some hE
   clear hE
   have ha : a < p.length := by
     rcases Nat.lt_or_ge a p.length with h | h
     · exact h
     · rw [List.drop_eq_nil_of_le h] at hx; cases hx
   have hx' := List.drop_eq_getElem_cons ha
   rw [hx'] at hx
   injection hx with hx hq
   subst hq
   obtain ⟨pb, po, rfl, hpb, hpc⟩ := hp (by omega)
   have HP := Lib.hid (hpc a ha)
   rw [hx] at HP
   have i1 : (0 : Int) <= (a : Int) := by omega
   have i2 : (a : Int) < (p.length : Int) := by omega
   have i3 : (a : Int) <= 100 := by omega
   have i6 : decide ((p.length : Int) <= (a : Int)) = false := by simp; omega
   have HX := GB.new W #[c0, c1, c2, c3, .slice (some ⟨rb, ro, none⟩) rs.length rc, c5]
   have hWX := hW.trans (HX.b.mono hW.size)
   have cp := (hWX.cell hpb).trans HP.out
   have lx := heap_lt' HX.g
   clear hx' hpc hx
   rcases hE1 with ⟨rfl, m0, rfl, hm0⟩ | ⟨r, hr, rfl, hs, k', rfl, hE⟩
   · rw [eat_nil] at hm0
     cases hm0
     clear hp hR IH hN HP
     go_enter Tryz.func26, Tryz.ntmps26
     go_wp2
     go_ret2
     exact ⟨by simp, HX.b⟩
   · rw [List.append_nil] at hE
     have hR0 := hR
     obtain ⟨rb', ro', e', hrb, hrc⟩ := hR
     cases e'
     obtain ⟨aa, ac, hrl⟩ := hrc r hr
     have hrl0 := hrl
     have hrl := hrl.below hrb hWX
     have HA := Lib.hid hrl.args
     have q0 := hrl.c0
     have q1 := hrl.c1
     have q2 := hrl.c2
     have q3 := hrl.c3
     rw [hs] at q0
     have hal' := hal _ (List.getElem_mem hr)
     have HE := Lib.hid hE
     have i4 : (0 : Int) <= (r : Int) := by omega
     have i5 : (r : Int) < (rs.length : Int) := by omega
     have e1 : ((r : Int) == -1) = false := by simp <;> omega
     have e2 : decide ((r : Int) < 0) = false := by simp
     have e3 : decide ((rs.length : Int) <= (r : Int)) = false := by simp; omega
     have IH' := Lib.hid IH
     have g4 := cellOf (i := 4) HX.g rfl
     clear hrc hrl hp hE IH
     go_enter Tryz.func26, Tryz.ntmps26
     go_wp2
     have HX2 := HX.below ((Below.refl _ _).drew)
     have B2 : Below (W.alloc (Obj.cells #[c0, c1, c2, c3, .slice (some ⟨rb, ro, none⟩) rs.length rc, c5] 29)).heap.size (W.alloc (Obj.cells #[c0, c1, c2, c3, .slice (some ⟨rb, ro, none⟩) rs.length rc, c5] 29)) (W.alloc (Obj.cells #[c0, c1, c2, c3, .slice (some ⟨rb, ro, none⟩) rs.length rc, c5] 29)).drew := (Below.refl _ _).drew
     have l0 : pb < (W.alloc (Obj.cells #[c0, c1, c2, c3, .slice (some ⟨rb, ro, none⟩) rs.length rc, c5] 29)).heap.size := Nat.lt_of_lt_of_le hpb hWX.size
     have l1 : rb < (W.alloc (Obj.cells #[c0, c1, c2, c3, .slice (some ⟨rb, ro, none⟩) rs.length rc, c5] 29)).heap.size := Nat.lt_of_lt_of_le hrb hWX.size
     have cp2 : (W.alloc (Obj.cells #[c0, c1, c2, c3, .slice (some ⟨rb, ro, none⟩) rs.length rc, c5] 29)).drew.cell? ⟨pb, po + a, none⟩ = _ := (B2.cell l0).trans cp
     have q02 : (W.alloc (Obj.cells #[c0, c1, c2, c3, .slice (some ⟨rb, ro, none⟩) rs.length rc, c5] 29)).drew.cell? ⟨rb, ro + r * 4, none⟩ = _ := (B2.cell l1).trans q0
     have q12 : (W.alloc (Obj.cells #[c0, c1, c2, c3, .slice (some ⟨rb, ro, none⟩) rs.length rc, c5] 29)).drew.cell? ⟨rb, ro + r * 4 + 1, none⟩ = _ := (B2.cell l1).trans q1
     have q22 : (W.alloc (Obj.cells #[c0, c1, c2, c3, .slice (some ⟨rb, ro, none⟩) rs.length rc, c5] 29)).drew.cell? ⟨rb, ro + r * 4 + 2, none⟩ = _ := (B2.cell l1).trans q2
     have q32 : (W.alloc (Obj.cells #[c0, c1, c2, c3, .slice (some ⟨rb, ro, none⟩) rs.length rc, c5] 29)).drew.cell? ⟨rb, ro + r * 4 + 3, none⟩ = _ := (B2.cell l1).trans q3
     have HA2 := Lib.hid (HA.out.below B2)
     have lx2 : W.heap.size < (W.alloc (Obj.cells #[c0, c1, c2, c3, .slice (some ⟨rb, ro, none⟩) rs.length rc, c5] 29)).drew.heap.size := lx
     refine wp_region_still_lit (by kernel_rfl) (by kernel_rfl) ?_
     change wpStill _ _ (W.alloc (Obj.cells #[c0, c1, c2, c3, .slice (some ⟨rb, ro, none⟩) rs.length rc, c5] 29)).drew (fun a' => Exit.then _ _ Exit.normal a' (W.alloc (Obj.cells #[c0, c1, c2, c3, .slice (some ⟨rb, ro, none⟩) rs.length rc, c5] 29)).drew) _ _
     clear HX cp q0 q1 q2 q3 HA g4 lx B2 l0 l1
     generalize (W.alloc (Obj.cells #[c0, c1, c2, c3, .slice (some ⟨rb, ro, none⟩) rs.length rc, c5] 29)).drew = w1 at *
     have g4 := cellOf (i := 4) HX2.g rfl
     repeat still_step
     refine wpStill_nil ?_
     go_wp2
     go_region_held3 (fun X => X.cell? ⟨W.heap.size, 4, none⟩ = some (.slice (some ⟨rb, ro, none⟩) rs.length rc) /\ X.cell? ⟨pb, po + a, none⟩ = some (.int .i64 r) /\ X.cell? ⟨rb, ro + r * 4, none⟩ = some (.int .i64 s) /\ X.cell? ⟨rb, ro + r * 4 + 1, none⟩ = some (.string rs[r].op) /\ X.cell? ⟨rb, ro + r * 4 + 2, none⟩ = some (.string rs[r].pa) /\ X.cell? ⟨rb, ro + r * 4 + 3, none⟩ = some (.slice aa rs[r].args.length ac)) (first | exact ⟨g4, cp2, q02, q12, q22, q32⟩ | go_keep) (fail)
     have HG3 : GB W #[c0, c1, c2, c3, .slice (some ⟨rb, ro, none⟩) rs.length rc, c5] (w1.alloc (.cells #[.int .i64 s, .string rs[r].op, .string rs[r].pa, .slice aa rs[r].args.length ac] 76)).drew := HX2.below (((Below.refl w1.heap.size w1).alloc (Nat.le_refl _) _).drew)
     have HB3 : BoxIs (w1.alloc (.cells #[.int .i64 s, .string rs[r].op, .string rs[r].pa, .slice aa rs[r].args.length ac] 76)).drew w1.heap.size 76 #[.int .i64 s, .string rs[r].op, .string rs[r].pa, .slice aa rs[r].args.length ac] := (BoxIs.new w1 _ _).below ((Below.refl _ _).drew)
     clear HX2 g4 cp2 q02 q12 q22 q32 lx2 HA2
     generalize (w1.alloc (.cells #[.int .i64 s, .string rs[r].op, .string rs[r].pa, .slice aa rs[r].args.length ac] 76)).drew = w2 at *
     generalize w1.heap.size = xb at *
     have HWW := Lib.hid hW
     have HAL := Lib.hid (fun X (hX : Below w.heap.size w X) => hrl0.args.below hX)
     have HG3' := Lib.hid HG3
     clear hrl
     go_wp2
     go_loopw [2, 11, 12, 13] (fun v i _ _ wr => ∃ j t d : Nat, j <= rs[r].args.length /\ i = .int .i64 j /\ v = .int .i64 t /\ a + 1 <= t /\ t + d = a + 1 + k' /\ t <= 101 /\ Hid (eat rs (rs[r].args.drop j) (p.drop t) = some d) /\ GB W #[c0, c1, c2, c3, .slice (some ⟨rb, ro, none⟩) rs.length rc, c5] wr /\ BoxIs wr xb 76 #[.int .i64 s, .string rs[r].op, .string rs[r].pa, .slice aa rs[r].args.length ac]) (fun _ i _ _ _ => rs[r].args.length - (intOf i).toNat)
     case atStart => exact ⟨0, a + 1, k', Nat.zero_le _, rfl, by go_num, Nat.le_refl _, rfl, by omega, HE, HG3, HB3⟩
     case round =>
       clear HG3 HG3' HB3 HE
       obtain ⟨j, t, d, hj, rfl, rfl, hat, htd, ht1, HE, HG, HX⟩ := hrel
       have x3 := cellOf (i := 3) HX rfl
       have lX := heap_lt' HX
       by_cases hlt : j < rs[r].args.length
       · have j1 : (0 : Int) <= (j : Int) := by omega
         have j2 : (j : Int) < (rs[r].args.length : Int) := by omega
         have hE := HE.out
         rw [List.drop_eq_getElem_cons hlt] at hE
         obtain ⟨k1, d1, he1, he2, hd⟩ := eat_cons hE
         rw [List.drop_drop] at he2
         have HE2 := Lib.hid he2
         have hkp := eat_le rs _ _ _ he1
         rw [List.length_drop] at hkp
         have hp1 : 0 < k1 := eat_pos he1
         have hbw := HWW.out.trans (HG.b.mono HWW.out.size)
         obtain ⟨ab, ao, rfl, hab, hax⟩ := HAL.out wr hbw (by omega)
         have cx := hax j hlt
         have HC : Hid (∀ X, Below w.heap.size w X -> Calls Tryz.prog 26 #[.agg #[c0, c1, c2, c3, .slice (some ⟨rb, ro, none⟩) rs.length rc, c5], .slice (some ⟨pb, po, none⟩) p.length pc, .int .i64 t, .int .i64 rs[r].args[j]] X fun e w' => ∃ t' : Nat, e = .returned (.tuple #[.int .i64 t', .bool true]) /\ Hid (t' = t + k1) /\ Below X.heap.size X w') := by
           refine Lib.hid fun X hX => ?_
           refine (IH'.out t rs[r].args[j] k1 X (by omega) he1 hX).mono ?_
           rintro e w' ⟨he, hb⟩
           exact ⟨t + k1, he, Lib.hid rfl, hb⟩
         have y0 := cellOf (i := 0) HG.g rfl
         have y1 := cellOf (i := 1) HG.g rfl
         have y2 := cellOf (i := 2) HG.g rfl
         have y3 := cellOf (i := 3) HG.g rfl
         have y4 := cellOf (i := 4) HG.g rfl
         have y5 := cellOf (i := 5) HG.g rfl
         clear hE he1 he2 HE IH' hax
         go_wp2
         go_region_held3 (fun X => X.cell? ⟨W.heap.size, 0, none⟩ = some c0 /\ X.cell? ⟨W.heap.size, 1, none⟩ = some c1 /\ X.cell? ⟨W.heap.size, 2, none⟩ = some c2 /\ X.cell? ⟨W.heap.size, 3, none⟩ = some c3 /\ X.cell? ⟨W.heap.size, 4, none⟩ = some (.slice (some ⟨rb, ro, none⟩) rs.length rc) /\ X.cell? ⟨W.heap.size, 5, none⟩ = some c5 /\ X.cell? ⟨xb, 3, none⟩ = some (.slice (some ⟨ab, ao, none⟩) rs[r].args.length ac) /\ X.cell? ⟨ab, ao + j, none⟩ = some (.int .i64 rs[r].args[j])) (first | exact ⟨y0, y1, y2, y3, y4, y5, x3, cx⟩ | exact ⟨u0, u1, u2, u3, u4, u5, u6, u7⟩ | go_keep) (first | (go_at_call 26; refine (HC.out _ (by first | exact hbw.drew | exact hbw)).mono ?_; rintro e w4 ⟨t', rfl, ht', hb4⟩; have hb5 := ((Below.refl wr.heap.size wr).drew).trans hb4; have HG4 := HG.below hb5; have HX4 := HX.below hb5; have u0 := cellOf (i := 0) HG4.g rfl; have u1 := cellOf (i := 1) HG4.g rfl; have u2 := cellOf (i := 2) HG4.g rfl; have u3 := cellOf (i := 3) HG4.g rfl; have u4 := cellOf (i := 4) HG4.g rfl; have u5 := cellOf (i := 5) HG4.g rfl; have u6 := cellOf (i := 3) HX4 rfl; have u7 : w4.cell? ⟨ab, ao + j, none⟩ = some (.int .i64 rs[r].args[j]) := (by rw [hb5.cell hab]; exact cx)))
         go_wp2
         go_roundw
         case rel => first | exact ⟨j + 1, t', d1, by omega, by go_num, rfl, by have := ht'.out; omega, by have := ht'.out; omega, by have := ht'.out; omega, by rw [ht'.out]; exact HE2, HG4, HX4⟩ | ((repeat apply Exists.intro); refine ⟨?_, rfl⟩; exact ⟨j + 1, t', d1, by omega, by go_num, rfl, by have := ht'.out; omega, by have := ht'.out; omega, by have := ht'.out; omega, by rw [ht'.out]; exact HE2, HG4, HX4⟩)
         case measure => simp [intOf]; omega
       · have j2 : ¬ (j : Int) < (rs[r].args.length : Int) := by omega
         have hE := HE.out
         rw [List.drop_eq_nil_of_le (by omega), eat_nil] at hE
         have hd0 : d <= 0 := by cases hE; exact Nat.le_refl _
         clear hE HE
         go_wp2
         go_ret2
         exact ⟨by have ht : t = a + (k' + 1) := by omega
                   rw [ht]; rfl, HG.b⟩
end Go.EvPart
