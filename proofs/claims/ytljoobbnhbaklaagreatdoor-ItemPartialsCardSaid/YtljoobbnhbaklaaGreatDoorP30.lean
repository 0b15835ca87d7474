/- ItemPartials, one part of the proof: PartJ2. -/
import Derived.Test.YtljoobbnhbaklaaGreatDoorP23
import Derived.OneCell
set_option linter.all false
set_option maxRecDepth 100000
set_option maxHeartbeats 16000000
namespace Go.EvPart
open Go Go.Proofs Go.RowKit Go.EvNil
section
variable {S : Sample} {M : Nat -> Nat} {rs : List Rl} {ca sa : Option Addr} {cc sc rb ro rc : Nat} {w : World}
theorem Gr.op (h : Gr S M rs ca sa cc sc rb ro rc w) : ∀ r ∈ rs, r.op.size <= 20 := fun r hr => (h.nice.rules r (h.sub.subset hr)).op.hi
theorem text_ne (h : Gr S M rs ca sa cc sc rb ro rc w) (pa : Option Addr) (pc : Nat) (p : List Int) (hp : ListAt w pa p) (hpn : p.length <= 100) (hE : eat rs [S.st] p = some p.length) :
   Calls Tryz.prog 62 #[.agg (gA S rs ca sa cc sc rb ro rc), .slice pa p.length pc] w fun e w' => RetNe 1 e /\ Below w.heap.size w w' := by
 have HB2 : Below w.heap.size w ((w.alloc (.cells (gA S rs ca sa cc sc rb ro rc) 29)).alloc (.cells #[.slice pa p.length pc] 22)) := ((Below.refl _ _).alloc (Nat.le_refl _) _).alloc (by simp) _
 have HSY := Lib.hid (symbolOf_yes (h.below HB2) pa pc p (hp.below HB2) hpn hE)
 have HTX := Lib.hid (text1 (.string S.nm) (.int .i64 S.ver) (.slice ca S.cols.length cc) (.slice sa S.syms.length sc) (.int .i64 S.st) rs rb ro rc pa pc p w h.r hp h.al h.op h.rn hpn w.heap.size (w.heap.size + 1))
 have hmf : ∀ (fn : Fn) (first cap : Array Value) (w : World), (Instr.makeFunc fn first cap).run Tryz.prog w = .ok (.func fn first cap) w := fun _ _ _ _ => rfl
 have HXg : BoxIs ((w.alloc (.cells (gA S rs ca sa cc sc rb ro rc) 29)).alloc (.cells #[.slice pa p.length pc] 22)) w.heap.size 29 (gA S rs ca sa cc sc rb ro rc) := (BoxIs.new w _ _).below ((Below.refl _ _).alloc (Nat.le_refl _) _)
 have HXp : BoxIs ((w.alloc (.cells (gA S rs ca sa cc sc rb ro rc) 29)).alloc (.cells #[.slice pa p.length pc] 22)) (w.heap.size + 1) 22 #[.slice pa p.length pc] := by
   have := BoxIs.new (w.alloc (.cells (gA S rs ca sa cc sc rb ro rc) 29)) 22 #[.slice pa p.length pc]
   rw [sizeNew] at this
   exact this
 have HE := Lib.hid hE
 clear h hp hE
 go_enter Tryz.func62, Tryz.ntmps62
 go_upto_region 6 with (go_at_call 50; refine HSY.out.mono ?_; rintro e w1 ⟨rfl, hb1⟩)
 have hb2 : Below w1.heap.size w1 ((w1.alloc (.cells #[.pointer none, .slice none 0 0] 123)).alloc (.cells #[.nilFunc] 53)) := ((Below.refl _ _).alloc (Nat.le_refl _) _).alloc (by simp) _
 have HO := (HB2.trans (hb1.mono HB2.size)).trans (hb2.mono ((HB2.trans (hb1.mono HB2.size)).size))
 have hlt : w.heap.size + 1 < w1.heap.size := by have := hb1.size; simp at this; omega
 have HXg2 := (HXg.below hb1).below hb2
 have HXp2 := (HXp.below hb1).below hb2
 have HXb : BoxIs ((w1.alloc (.cells #[.pointer none, .slice none 0 0] 123)).alloc (.cells #[.nilFunc] 53)) w1.heap.size 123 #[.pointer none, .slice none 0 0] := (BoxIs.new w1 _ _).below ((Below.refl _ _).alloc (Nat.le_refl _) _)
 have HXf : ((w1.alloc (.cells #[.pointer none, .slice none 0 0] 123)).alloc (.cells #[.nilFunc] 53)).heap[w1.heap.size + 1]? = some (.cells #[.nilFunc] 53 (0, 0)) := by
   have := heapNew (w1.alloc (.cells #[.pointer none, .slice none 0 0] 123)) (.cells #[.nilFunc] 53)
   rw [sizeNew] at this
   exact this
 clear hb2 HB2 hb1 HXg HXp HSY
 generalize ((w1.alloc (.cells #[.pointer none, .slice none 0 0] 123)).alloc (.cells #[.nilFunc] 53)) = w2 at *
 generalize w1.heap.size = b at *
 have HT : TS w (gA S rs ca sa cc sc rb ro rc) (.slice pa p.length pc) w.heap.size (w.heap.size + 1) b (b + 1) 0 0 (w2.setCell ⟨b + 1, 0, none⟩ (.func (.func 123) #[] #[.pointer (some ⟨w.heap.size + 1, 0, none⟩), .pointer (some ⟨b, 0, none⟩), .pointer (some ⟨w.heap.size, 0, none⟩), .pointer (some ⟨b + 1, 0, none⟩)])) := by
   refine ⟨HO.setCell (p := ⟨b + 1, 0, none⟩) (by show _ <= b + 1; omega) _, ?_, ?_, one_setCell HXf, ?_, by omega, by omega, by omega, by omega⟩
   · unfold BoxIs; rw [Below.heap_setCell _ _ _ _ (by show _ ≠ b + 1; omega)]; exact HXg2
   · unfold BoxIs; rw [Below.heap_setCell _ _ _ _ (by show _ ≠ b + 1; omega)]; exact HXp2
   · have hB : (w2.setCell ⟨b + 1, 0, none⟩ (.func (.func 123) #[] #[.pointer (some ⟨w.heap.size + 1, 0, none⟩), .pointer (some ⟨b, 0, none⟩), .pointer (some ⟨w.heap.size, 0, none⟩), .pointer (some ⟨b + 1, 0, none⟩)])).heap[b]? = some (.cells #[.pointer none, .slice none 0 0] 123 (0, 0)) := by
       rw [Below.heap_setCell _ _ _ _ (by show _ ≠ b + 1; omega)]; exact HXb
     exact ⟨Nat.le_of_lt (heap_lt' hB), [], .inl ⟨Nat.le_refl _, .slice none 0 0, hB, ⟨by simp [Lib.byteCells], .inl ⟨rfl, rfl⟩⟩, by simp [Value.ownBlock]⟩, Nat.le_refl _, Nat.le_refl _⟩
 have f0 := cellOf (i := 0) HXf rfl
 have f1 := cellOf (i := 0) HT.f rfl
 have lf := heap_lt' HXf
 have HC := Lib.hid (HTX.out b (b + 1) p.length 0 S.st p.length 0 0 _ (by omega) HE.out HT (by omega))
 have zf : w2.frozen? ⟨b + 1, 0, none⟩ = false := by simp [World.frozen?, HXf]
 have hst := run_store Tryz.prog w2 ⟨b + 1, 0, none⟩ (.func (.func 123) #[] #[.pointer (some ⟨w.heap.size + 1, 0, none⟩), .pointer (some ⟨b, 0, none⟩), .pointer (some ⟨w.heap.size, 0, none⟩), .pointer (some ⟨b + 1, 0, none⟩)]) .plain rfl
 clear HT HTX HE HO HXg2 HXp2 HXb HXf
 go_wp2_with (first
   | (go_at_call 123; refine HC.out.mono ?_; rintro e w4 ⟨rfl, HT4, _, _⟩)
   | (have _ := HT4; go_at_call 61; refine (string_any b b _ _ _ HT4.bl).mono ?_; rintro e w5 ⟨⟨s, rfl, hs⟩, hb5⟩))
 go_ret
 exact ⟨⟨s, rfl, by omega⟩, HT4.o.trans (hb5.mono (by omega))⟩
end
end Go.EvPart
