/- ItemPartials, one part of the proof: PartK2, PartK3, PartK4, PartZ0. -/
import Derived.Test.YtljoobbnhbaklaaGreatDoorP31
import Derived.Test.YtljoobbnhbaklaaGreatDoorP33
import Derived.Test.YtljoobbnhbaklaaGreatDoorP24
set_option linter.all false
set_option maxRecDepth 100000
set_option maxHeartbeats 16000000
namespace Go.EvPart
open Go Go.Proofs Go.RowKit Go.EvNil
abbrev zV : Value := .agg #[.int .i64 0, .string ⟨#[]⟩, .int .i64 0, .int .i64 0, .int .i64 0, .slice none 0 0, .slice none 0 0]
abbrev iA (pa : Option Addr) (pl pc : Nat) : Array Value := #[.int .i64 1, .int .i64 1, .int .i64 0, .int .i64 0, .int .i64 4, .slice none 0 0, .int .i64 0, .string ⟨#[]⟩, .int .i64 0, .int .i64 0, .int .i64 0, .slice none 0 0, .slice none 0 0, .string ⟨#[]⟩, .string ⟨#[]⟩, .slice pa pl pc]
theorem strings_nil (w : World) : Calls Tryz.prog 112 #[.slice none 0 0, .slice none 0 0] w fun e w' => e = .returned (.bool true) /\ w' = w := by
 go_enter Tryz.func112, Tryz.ntmps112
 go_wp2
 go_loopw [5, 13] (fun _ i wr => i = .int .i64 0 /\ wr = w) (fun _ _ _ => 0)
 case atStart => exact ⟨rfl, rfl⟩
 case round =>
   obtain ⟨rfl, rfl⟩ := hrel
   go_wp2
   go_ret
   exact ⟨rfl, rfl⟩
theorem rows_nil (f : Value) (w : World) : Calls Tryz.prog 113 #[.slice none 0 0, .slice none 0 0, f] w fun e w' => e = .returned (.bool true) /\ w' = w := by
 go_enter Tryz.func113, Tryz.ntmps113
 go_wp2
 go_loopw [7, 8, 9, 17] (fun _ _ _ i wr => i = .int .i64 0 /\ wr = w) (fun _ _ _ _ _ => 0)
 case atStart => exact ⟨rfl, rfl⟩
 case round =>
   obtain ⟨rfl, rfl⟩ := hrel
   go_wp2
   go_ret
   exact ⟨rfl, rfl⟩
theorem equal_zero (w : World) : Calls Tryz.prog 54 #[zV, zV] w fun e w' => e = .returned (.bool true) /\ Below w.heap.size w w' := by
 go_enter Tryz.func54, Tryz.ntmps54
 go_wp2_with (first
   | (go_at_call 112; refine (strings_nil _).mono ?_; rintro e w5 ⟨rfl, rfl⟩)
   | (go_at_call 113; refine (rows_nil _ _).mono ?_; rintro e w6 ⟨rfl, rfl⟩))
 go_ret
 exact ⟨rfl, ((Below.refl _ _).alloc (Nat.le_refl _) _).alloc (by simp) _⟩
theorem onlyOwn_yes (pa : Option Addr) (pl pc : Nat) (w : World) : Calls Tryz.prog 28 #[.agg (iA pa pl pc)] w fun e w' => e = .returned (.bool true) /\ Below w.heap.size w w' := by
 have HE := Lib.hid (fun W => equal_zero W)
 have HX := BoxIs.new w 40 (iA pa pl pc)
 have HB := (Below.refl w.heap.size w).alloc (Nat.le_refl _) (.cells (iA pa pl pc) 40)
 go_enter Tryz.func28, Tryz.ntmps28
 go_wp2_with (go_at_call 54; (refine (HE.out _).mono ?_); rintro e w5 ⟨rfl, hb5⟩; have HX5 := HX.below hb5; have x4 := cellOf (i := 4) HX5 rfl; have x5 := cellOf (i := 5) HX5 rfl; have x13 := cellOf (i := 13) HX5 rfl; have x14 := cellOf (i := 14) HX5 rfl; have x15 := cellOf (i := 15) HX5 rfl)
 go_ret
 exact ⟨rfl, HB.trans (hb5.mono HB.size)⟩
end Go.EvPart
namespace Go.EvPart
open Go Go.Proofs Go.RowKit Go.EvNil
section
variable {S : Sample} {M : Nat -> Nat} {rs : List Rl} {ca sa : Option Addr} {cc sc rb ro rc : Nat} {w : World}
structure GI (w : World) (G I : Array Value) (W : World) : Prop where
 b : Below w.heap.size w W
 g : BoxIs W w.heap.size 29 G
 i : BoxIs W (w.heap.size + 1) 40 I
theorem GI.below {w W W' : World} {G I : Array Value} (h : GI w G I W) (hb : Below W.heap.size W W') : GI w G I W' := ⟨h.b.trans (hb.mono h.b.size), h.g.below hb, h.i.below hb⟩
theorem GI.new (w : World) (G I : Array Value) : GI w G I ((w.alloc (.cells G 29)).alloc (.cells I 40)) :=
 ⟨((Below.refl _ _).alloc (Nat.le_refl _) _).alloc (by simp) _, (BoxIs.new w _ _).below ((Below.refl _ _).alloc (Nat.le_refl _) _), by
   have := BoxIs.new (w.alloc (.cells G 29)) 40 I
   rw [sizeNew] at this
   exact this⟩
theorem checkItem_yes (h : Gr S M rs ca sa cc sc rb ro rc w) (pa : Option Addr) (pc : Nat) (p : List Int) (hp : ListAt w pa p) (hpn : p.length <= 100) (hE : eat rs [S.st] p = some p.length) :
   Calls Tryz.prog 10 #[.agg (gA S rs ca sa cc sc rb ro rc), .agg (iA pa p.length pc)] w fun e w' => e = .returned (.int .i64 0) /\ Below w.heap.size w w' := by
 have HX := GI.new w (gA S rs ca sa cc sc rb ro rc) (iA pa p.length pc)
 have HP := Lib.hid (fun W (hW : Below w.heap.size w W) => print_g (h.below hW))
 have HO := Lib.hid (fun W => onlyOwn_yes pa p.length pc W)
 have HT := Lib.hid (fun W (hW : Below w.heap.size w W) => isTerm_yes (h.below hW) pa pc p (hp.below hW) hpn hE)
 clear h hp hpn hE
 go_enter Tryz.func10, Tryz.ntmps10
 go_wp2_with (first
   | (go_at_call 27; (with_reducible refine (HP.out _ HX.b).mono ?_); rintro e w1 ⟨⟨s, rfl, hs⟩, hb1⟩; have hse := str_ne hs; have HX1 := HX.below hb1; have y0 := cellOf (i := 0) HX1.i rfl; have y1 := cellOf (i := 1) HX1.i rfl; have y2 := cellOf (i := 2) HX1.i rfl; have y3 := cellOf (i := 3) HX1.i rfl; have y4 := cellOf (i := 4) HX1.i rfl; have y5 := cellOf (i := 5) HX1.i rfl; have y6 := cellOf (i := 6) HX1.i rfl; have y7 := cellOf (i := 7) HX1.i rfl; have y8 := cellOf (i := 8) HX1.i rfl; have y9 := cellOf (i := 9) HX1.i rfl; have y10 := cellOf (i := 10) HX1.i rfl; have y11 := cellOf (i := 11) HX1.i rfl; have y12 := cellOf (i := 12) HX1.i rfl; have y13 := cellOf (i := 13) HX1.i rfl; have y14 := cellOf (i := 14) HX1.i rfl; have y15 := cellOf (i := 15) HX1.i rfl)
   | (have _ := HX1; go_at_call 28; refine (HO.out _).mono ?_; rintro e w2 ⟨rfl, hb2⟩; have HX2 := HX1.below hb2; have g0 := cellOf (i := 0) HX2.g rfl; have g1 := cellOf (i := 1) HX2.g rfl; have g2 := cellOf (i := 2) HX2.g rfl; have g3 := cellOf (i := 3) HX2.g rfl; have g4 := cellOf (i := 4) HX2.g rfl; have g5 := cellOf (i := 5) HX2.g rfl; have x4 := cellOf (i := 4) HX2.i rfl; have x15 := cellOf (i := 15) HX2.i rfl)
   | (have _ := HX2; go_at_call 29; refine (HT.out _ HX2.b).mono ?_; rintro e w3 ⟨rfl, hb3⟩))
 go_ret
 exact ⟨rfl, HX2.b.trans (hb3.mono HX2.b.size)⟩
end
end Go.EvPart
namespace Go.EvPart
open Go Go.Proofs Go.RowKit Go.EvNil
section
variable {S : Sample} {M : Nat -> Nat} {rs : List Rl} {ca sa : Option Addr} {cc sc rb ro rc : Nat} {w : World}
theorem holds_prog (h : Gr S M rs ca sa cc sc rb ro rc w) (pa ta : Option Addr) (pc tc n : Nat) (p t : List Int) (hp : ListAt w pa p) (ht : ListAt w ta t) (hP : Prg rs M S.st n p) (htn : t.length <= 100) (hT : eat rs [S.st] t = some t.length) (r : Bool) (hr : r = true ↔ beside rs p t 0 = some p.length) :
   Calls Tryz.prog 7 #[.agg (gA S rs ca sa cc sc rb ro rc), .slice none 0 0, .agg (iA ta t.length tc), .slice pa p.length pc] w fun e w' => e = .returned (.bool r) /\ Below w.heap.size w w' := by
 have HX := GI.new w (gA S rs ca sa cc sc rb ro rc) (iA ta t.length tc)
 have HC := Lib.hid (fun W (hW : Below w.heap.size w W) => check_yes (h.below hW) pa pc n p (hp.below hW) hP)
 have HI := Lib.hid (fun W (hW : Below w.heap.size w W) => checkItem_yes (h.below hW) ta tc t (ht.below hW) htn hT)
 have HF := Lib.hid (fun W (hW : Below w.heap.size w W) => fits_prog (h.below hW) pa ta pc tc n p t (hp.below hW) (ht.below hW) hP htn hT r hr)
 clear h hp ht hP hT hr
 go_enter Tryz.func7, Tryz.ntmps7
 go_wp2_with (first
   | (go_at_call 21; refine (HC.out _ HX.b).mono ?_; rintro e w1 ⟨rfl, hb1⟩; have HX1 := HX.below hb1; have y0 := cellOf (i := 0) HX1.i rfl; have y1 := cellOf (i := 1) HX1.i rfl; have y2 := cellOf (i := 2) HX1.i rfl; have y3 := cellOf (i := 3) HX1.i rfl; have y4 := cellOf (i := 4) HX1.i rfl; have y5 := cellOf (i := 5) HX1.i rfl; have y6 := cellOf (i := 6) HX1.i rfl; have y7 := cellOf (i := 7) HX1.i rfl; have y8 := cellOf (i := 8) HX1.i rfl; have y9 := cellOf (i := 9) HX1.i rfl; have y10 := cellOf (i := 10) HX1.i rfl; have y11 := cellOf (i := 11) HX1.i rfl; have y12 := cellOf (i := 12) HX1.i rfl; have y13 := cellOf (i := 13) HX1.i rfl; have y14 := cellOf (i := 14) HX1.i rfl; have y15 := cellOf (i := 15) HX1.i rfl; have g0 := cellOf (i := 0) HX1.g rfl; have g1 := cellOf (i := 1) HX1.g rfl; have g2 := cellOf (i := 2) HX1.g rfl; have g3 := cellOf (i := 3) HX1.g rfl; have g4 := cellOf (i := 4) HX1.g rfl; have g5 := cellOf (i := 5) HX1.g rfl)
   | (have _ := HX1; go_at_call 10; refine (HI.out _ HX1.b).mono ?_; rintro e w2 ⟨rfl, hb2⟩; have HX2 := HX1.below hb2; have z0 := cellOf (i := 0) HX2.g rfl; have z1 := cellOf (i := 1) HX2.g rfl; have z2 := cellOf (i := 2) HX2.g rfl; have z3 := cellOf (i := 3) HX2.g rfl; have z4 := cellOf (i := 4) HX2.g rfl; have z5 := cellOf (i := 5) HX2.g rfl; have x4 := cellOf (i := 4) HX2.i rfl; have x15 := cellOf (i := 15) HX2.i rfl)
   | (have _ := HX2; go_at_call 22; refine (HF.out _ HX2.b).mono ?_; rintro e w3 ⟨rfl, hb3⟩))
 go_ret
 exact ⟨rfl, HX2.b.trans (hb3.mono HX2.b.size)⟩
theorem holds_no (pa ta : Option Addr) (pl pc tl tc : Nat) (HC : ∀ W, Below w.heap.size w W -> Calls Tryz.prog 21 #[.agg (gA S rs ca sa cc sc rb ro rc), .slice pa pl pc] W fun e w' => e = .returned (.bool false) /\ Below W.heap.size W w') :
   Calls Tryz.prog 7 #[.agg (gA S rs ca sa cc sc rb ro rc), .slice none 0 0, .agg (iA ta tl tc), .slice pa pl pc] w fun e w' => e = .returned (.bool false) /\ Below w.heap.size w w' := by
 have HX := GI.new w (gA S rs ca sa cc sc rb ro rc) (iA ta tl tc)
 have HC := Lib.hid HC
 go_enter Tryz.func7, Tryz.ntmps7
 go_wp2_with (go_at_call 21; refine (HC.out _ HX.b).mono ?_; rintro e w1 ⟨rfl, hb1⟩; have HX1 := HX.below hb1)
 go_ret
 exact ⟨rfl, HX1.b⟩
theorem holds_nil (h : Gr S M rs ca sa cc sc rb ro rc w) (ta : Option Addr) (tl tc : Nat) :
   Calls Tryz.prog 7 #[.agg (gA S rs ca sa cc sc rb ro rc), .slice none 0 0, .agg (iA ta tl tc), .slice none 0 0] w fun e w' => e = .returned (.bool false) /\ Below w.heap.size w w' :=
 holds_no none ta 0 0 tl tc fun W hW => check_no (h.below hW) none 0 [] (fun h0 => by simp at h0) (by simp) (by rw [eat_end]; simp)
theorem holds_hole (h : Gr S M rs ca sa cc sc rb ro rc w) (pa ta : Option Addr) (pc tl tc : Nat) (hp : ListAt w pa [-1]) :
   Calls Tryz.prog 7 #[.agg (gA S rs ca sa cc sc rb ro rc), .slice none 0 0, .agg (iA ta tl tc), .slice pa 1 pc] w fun e w' => e = .returned (.bool false) /\ Below w.heap.size w w' :=
 holds_no pa ta 1 pc tl tc fun W hW => check_hole (h.below hW) pa pc (hp.below hW)
end
end Go.EvPart
namespace Go.EvPart
open Go Go.Proofs Go.RowKit Go.EvNil
theorem list_set {w : World} {ib i : Nat} {arr : Array Value} {T : TypeId} (hb : w.heap[ib]? = some (.cells arr T (0, 0))) {a : Option Addr} {n c : Nat} (hi : arr[i]? = some (.slice a n c)) {va : Option Addr} {t : List Int} (h : ListAt w va t) (v : Value) : ListAt (w.setCell ⟨ib, i, none⟩ v) va t := fun h0 => by
 obtain ⟨b, o, rfl, hlt, hc⟩ := h h0
 refine ⟨b, o, rfl, by rw [World.size_setCell]; exact hlt, fun j hj => ?_⟩
 have hx := hc j hj
 rw [World.cell?_setCell_other _ _ _ _ (fun e => by
   have hc1 : w.cell? ⟨ib, i, none⟩ = some (.slice a n c) := cellOf hb hi
   rw [← e, hc1] at hx
   cases hx)]
 exact hx
structure LI (w : World) (ib : Nat) (ta : Option Addr) (tl tc : Nat) (wr : World) : Prop where
 b : Below w.heap.size w wr
 i : wr.heap[ib]? = some (.cells (iA ta tl tc) 40 (0, 0))
 ge : w.heap.size <= ib
theorem LI.below {w wr w' : World} {ib : Nat} {ta : Option Addr} {tl tc : Nat} (h : LI w ib ta tl tc wr) (hb : Below wr.heap.size wr w') : LI w ib ta tl tc w' :=
 ⟨h.b.trans (hb.mono h.b.size), by rw [hb.block _ (heap_lt' h.i)]; exact h.i, h.ge⟩
theorem LI.set {w wr : World} {ib : Nat} {ta : Option Addr} {tl tc : Nat} (h : LI w ib ta tl tc wr) (a : Option Addr) (n c : Nat) : LI w ib a n c (wr.setCell ⟨ib, 15, none⟩ (.slice a n c)) :=
 ⟨Below.setCell h.b (show w.heap.size <= (⟨ib, 15, none⟩ : Addr).block from h.ge) _, Joins.block_setCell (i := 15) h.i _, h.ge⟩
theorem LI.drew {w wr : World} {ib : Nat} {ta : Option Addr} {tl tc : Nat} (h : LI w ib ta tl tc wr) : LI w ib ta tl tc wr.drew := h.below (Below.refl _ _).drew
def isReg (n : Nat) : Code -> Bool
 | .region k _ _ => k == n
 | _ => false
def regAt (n : Nat) : Code -> Code
 | .seq a b => if isReg n a = true then a else regAt n b
 | c => c
end Go.EvPart
