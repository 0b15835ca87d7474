/- ItemPartials, one part of the proof: PartK1. -/
import Derived.Test.YtljoobbnhbaklaaGreatDoorP30
set_option linter.all false
set_option maxRecDepth 100000
set_option maxHeartbeats 16000000
namespace Go.EvPart
open Go Go.Proofs Go.RowKit Go.EvNil
section
variable {S : Sample} {M : Nat -> Nat} {rs : List Rl} {ca sa : Option Addr} {cc sc rb ro rc : Nat} {w : World}
attribute [local irreducible] wpAnyH in
theorem isTerm_yes (h : Gr S M rs ca sa cc sc rb ro rc w) (pa : Option Addr) (pc : Nat) (p : List Int) (hp : ListAt w pa p) (hpn : p.length <= 100) (hE : eat rs [S.st] p = some p.length) :
   Calls Tryz.prog 29 #[.agg (gA S rs ca sa cc sc rb ro rc), .slice pa p.length pc] w fun e w' => e = .returned (.bool true) /\ Below w.heap.size w w' := by
 have HT := Lib.hid (fun W (hW : Below w.heap.size w W) => text_ne (h.below hW) pa pc p (hp.below hW) hpn hE)
 have HX := GB.new w (gA S rs ca sa cc sc rb ro rc)
 obtain ⟨x, q, rfl, hx⟩ := eat_first hE
 obtain ⟨pb, po, rfl, hpb, hpc⟩ := hp (by simp)
 have cp := hpc 0 (by simp)
 rw [List.getElem_cons_zero, Nat.add_zero] at cp
 rw [List.length_cons] at hpn
 have hql : q.length <= 99 := by omega
 have i2 : (0 : Int) < (q.length : Int) + 1 := by omega
 have hrn := h.rn
 have HR := h.r
 clear hpc hE h hp hpn
 rcases hx with rfl | ⟨k, hk, rfl, hs⟩
 · clear HR
   rw [List.length_cons] at *
   go_enter Tryz.func29, Tryz.ntmps29
   go_wp2
   have HX2 := HX.drew'
   have k0 := cellOf (i := 0) HX2.g rfl
   have k1 := cellOf (i := 1) HX2.g rfl
   have k2 := cellOf (i := 2) HX2.g rfl
   have k3 := cellOf (i := 3) HX2.g rfl
   have k4 := cellOf (i := 4) HX2.g rfl
   have k5 := cellOf (i := 5) HX2.g rfl
   have cp2 : (w.alloc (Obj.cells (gA S rs ca sa cc sc rb ro rc) 29)).drew.cell? ⟨pb, po, none⟩ = _ := (HX2.b.cell hpb).trans cp
   refine wp_region_held_drew (S := (fun W => W.cell? ⟨w.heap.size, 0, none⟩ = some (.string S.nm) /\ W.cell? ⟨w.heap.size, 1, none⟩ = some (.int .i64 S.ver) /\ W.cell? ⟨w.heap.size, 2, none⟩ = some (.slice ca S.cols.length cc) /\ W.cell? ⟨w.heap.size, 3, none⟩ = some (.slice sa S.syms.length sc) /\ W.cell? ⟨w.heap.size, 4, none⟩ = some (.slice (some ⟨rb, ro, none⟩) rs.length rc) /\ W.cell? ⟨w.heap.size, 5, none⟩ = some (.int .i64 S.st) /\ W.cell? ⟨pb, po, none⟩ = some (.int .i64 (-1)))) (by kernel_rfl) ⟨k0, k1, k2, k3, k4, k5, cp2⟩ (fun hHeld0 => ?_)
   clear k0 k1 k2 k3 k4 k5 cp2
   refine tkD (i := 0) (d := some 5) (v := ?_) rfl rfl (Or.inl ⟨by rfl, ?_⟩) (by assumption) ?_
   rotate_left
   · intro w hSw; (try dsimp only at hSw); (go_simp <;> with_reducible rfl)
   try simp only [Qa, Qb, Qc, Qd]
   refine tkD (i := 1) (d := some 6) (v := ?_) rfl rfl (Or.inl ⟨by rfl, ?_⟩) (by assumption) ?_
   rotate_left
   · intro w hSw; (try dsimp only at hSw); (go_simp <;> with_reducible rfl)
   try simp only [Qa, Qb, Qc, Qd]
   refine wpAnyH_ready (rs := [2]) (by kernel_rfl) (by simp) ?_
   refine AllReadyH.cons (o := _) rfl (fun K hK => ?_) AllReadyH.nil
   go_simp
   go_at_call 62
   refine (HT.out _ HX2.b).mono ?_
   rintro e w3 ⟨⟨s, rfl, hs⟩, hb3⟩
   have hse := str_ne hs
   have HX3 := HX2.below hb3
   have g0 := cellOf (i := 0) HX3.g rfl
   have g1 := cellOf (i := 1) HX3.g rfl
   have g2 := cellOf (i := 2) HX3.g rfl
   have g3 := cellOf (i := 3) HX3.g rfl
   have g4 := cellOf (i := 4) HX3.g rfl
   have g5 := cellOf (i := 5) HX3.g rfl
   have cp3 : w3.cell? ⟨pb, po, none⟩ = _ := (HX3.b.cell hpb).trans cp
   refine hK.out _ _ ?_ (fun hHeld => ?_)
   · exact ⟨g0, g1, g2, g3, g4, g5, cp3⟩
   clear hK K hHeld0
   try simp only [Qa, Qb, Qc, Qd]
   refine tkD (i := 3) (d := some 8) (v := ?_) rfl rfl (Or.inl ⟨by rfl, ?_⟩) (by assumption) ?_
   rotate_left
   · intro w hSw; (try dsimp only at hSw); (go_simp <;> with_reducible rfl)
   try simp only [Qa, Qb, Qc, Qd]
   refine tkD (i := 4) (d := some 9) (v := ?_) rfl rfl (Or.inl ⟨by rfl, ?_⟩) (by assumption) ?_
   rotate_left
   · intro w hSw; (try dsimp only at hSw); (go_simp <;> with_reducible rfl)
   try simp only [Qa, Qb, Qc, Qd]
   refine tkD (i := 5) (d := some 10) (v := ?_) rfl rfl (Or.inl ⟨by rfl, ?_⟩) (by assumption) ?_
   rotate_left
   · intro w hSw; (try dsimp only at hSw); (go_simp <;> with_reducible rfl)
   try simp only [Qa, Qb, Qc, Qd]
   refine tkD (i := 6) (d := some 11) (v := ?_) rfl rfl (Or.inl ⟨by rfl, ?_⟩) (by assumption) ?_
   rotate_left
   · intro w hSw; (try dsimp only at hSw); (go_simp <;> with_reducible rfl)
   try simp only [Qa, Qb, Qc, Qd]
   refine tkD (i := 7) (d := some 12) (v := ?_) rfl rfl (Or.inl ⟨by rfl, ?_⟩) (by assumption) ?_
   rotate_left
   · intro w hSw; (try dsimp only at hSw); (go_simp <;> with_reducible rfl)
   try simp only [Qa, Qb, Qc, Qd]
   refine tkD (i := 8) (d := some 13) (v := ?_) rfl rfl (Or.inl ⟨by rfl, ?_⟩) (by assumption) ?_
   rotate_left
   · intro w hSw; (try dsimp only at hSw); (go_simp <;> with_reducible rfl)
   try simp only [Qa, Qb, Qc, Qd]
   refine tkD (i := 9) (d := some 14) (v := ?_) rfl rfl (Or.inl ⟨by rfl, ?_⟩) (by assumption) ?_
   rotate_left
   · intro w hSw; (try dsimp only at hSw); (go_simp <;> with_reducible rfl)
   try simp only [Qa, Qb, Qc, Qd]
   refine tkD (i := 10) (d := some 15) (v := undef) rfl rfl (Or.inr ⟨by rfl, rfl⟩) (by assumption) ?_
   try simp only [Qa, Qb, Qc, Qd]
   refine tkD (i := 11) (d := some 16) (v := undef) rfl rfl (Or.inr ⟨by rfl, rfl⟩) (by assumption) ?_
   try simp only [Qa, Qb, Qc, Qd]
   refine tkD (i := 12) (d := some 17) (v := undef) rfl rfl (Or.inr ⟨by rfl, rfl⟩) (by assumption) ?_
   try simp only [Qa, Qb, Qc, Qd]
   refine tkD (i := 13) (d := some 18) (v := undef) rfl rfl (Or.inr ⟨by rfl, rfl⟩) (by assumption) ?_
   try simp only [Qa, Qb, Qc, Qd]
   refine tkD (i := 14) (d := some 19) (v := undef) rfl rfl (Or.inr ⟨by rfl, rfl⟩) (by assumption) ?_
   try simp only [Qa, Qb, Qc, Qd]
   refine tkD (i := 15) (d := some 20) (v := undef) rfl rfl (Or.inr ⟨by rfl, rfl⟩) (by assumption) ?_
   try simp only [Qa, Qb, Qc, Qd]
   refine tkD (i := 16) (d := some 21) (v := undef) rfl rfl (Or.inr ⟨by rfl, rfl⟩) (by assumption) ?_
   try simp only [Qa, Qb, Qc, Qd]
   refine tkD (i := 17) (d := some 22) (v := undef) rfl rfl (Or.inr ⟨by rfl, rfl⟩) (by assumption) ?_
   try simp only [Qa, Qb, Qc, Qd]
   refine tkD (i := 18) (d := some 23) (v := undef) rfl rfl (Or.inr ⟨by rfl, rfl⟩) (by assumption) ?_
   try simp only [Qa, Qb, Qc, Qd]
   refine tkD (i := 19) (d := some 24) (v := undef) rfl rfl (Or.inr ⟨by rfl, rfl⟩) (by assumption) ?_
   try simp only [Qa, Qb, Qc, Qd]
   refine tkD (i := 20) (d := some 25) (v := undef) rfl rfl (Or.inr ⟨by rfl, rfl⟩) (by assumption) ?_
   try simp only [Qa, Qb, Qc, Qd]
   refine tkD (i := 21) (d := some 26) (v := ?_) rfl rfl (Or.inl ⟨by rfl, ?_⟩) (by assumption) ?_
   rotate_left
   · intro w hSw; (try dsimp only at hSw); (go_simp <;> with_reducible rfl)
   try simp only [Qa, Qb, Qc, Qd]
   refine tkD (i := 22) (d := some 27) (v := ?_) rfl rfl (Or.inl ⟨by rfl, ?_⟩) (by assumption) ?_
   rotate_left
   · intro w hSw; (try dsimp only at hSw); (go_simp <;> with_reducible rfl)
   try simp only [Qa, Qb, Qc, Qd]
   refine tkD (i := 23) (d := some 4) (v := ?_) rfl rfl (Or.inl ⟨by rfl, ?_⟩) (by assumption) ?_
   rotate_left
   · intro w hSw; (try dsimp only at hSw); (go_simp <;> with_reducible rfl)
   try simp only [Qa, Qb, Qc, Qd]
   refine wpAnyH_done (by kernel_rfl) ?_ _
   clear HX2 HT
   go_wp2
   go_ret
   exact ⟨rfl, HX3.b⟩
 · obtain ⟨rb', ro', e', hrb, hrc⟩ := HR
   cases e'
   obtain ⟨aa, ac, hr⟩ := hrc k hk
   have q0 := hr.c0
   rw [hs] at q0
   clear hrc hr hs
   have i3 : (0 : Int) <= (k : Int) := by omega
   have i4 : (k : Int) < (rs.length : Int) := by omega
   have e1 : ((k : Int) == -1) = false := by simp <;> omega
   rw [List.length_cons] at *
   go_enter Tryz.func29, Tryz.ntmps29
   go_wp2
   have HX2 := HX.drew'
   have k0 := cellOf (i := 0) HX2.g rfl
   have k1 := cellOf (i := 1) HX2.g rfl
   have k2 := cellOf (i := 2) HX2.g rfl
   have k3 := cellOf (i := 3) HX2.g rfl
   have k4 := cellOf (i := 4) HX2.g rfl
   have k5 := cellOf (i := 5) HX2.g rfl
   have cp2 : (w.alloc (Obj.cells (gA S rs ca sa cc sc rb ro rc) 29)).drew.cell? ⟨pb, po, none⟩ = _ := (HX2.b.cell hpb).trans cp
   have q02 : (w.alloc (Obj.cells (gA S rs ca sa cc sc rb ro rc) 29)).drew.cell? ⟨rb, ro + k * 4, none⟩ = _ := (HX2.b.cell hrb).trans q0
   refine wp_region_held_drew (S := (fun W => W.cell? ⟨w.heap.size, 0, none⟩ = some (.string S.nm) /\ W.cell? ⟨w.heap.size, 1, none⟩ = some (.int .i64 S.ver) /\ W.cell? ⟨w.heap.size, 2, none⟩ = some (.slice ca S.cols.length cc) /\ W.cell? ⟨w.heap.size, 3, none⟩ = some (.slice sa S.syms.length sc) /\ W.cell? ⟨w.heap.size, 4, none⟩ = some (.slice (some ⟨rb, ro, none⟩) rs.length rc) /\ W.cell? ⟨w.heap.size, 5, none⟩ = some (.int .i64 S.st) /\ W.cell? ⟨pb, po, none⟩ = some (.int .i64 (k : Nat)) /\ W.cell? ⟨rb, ro + k * 4, none⟩ = some (.int .i64 S.st))) (by kernel_rfl) ⟨k0, k1, k2, k3, k4, k5, cp2, q02⟩ (fun hHeld0 => ?_)
   clear k0 k1 k2 k3 k4 k5 cp2 q02
   refine tkD (i := 0) (d := some 5) (v := ?_) rfl rfl (Or.inl ⟨by rfl, ?_⟩) (by assumption) ?_
   rotate_left
   · intro w hSw; (try dsimp only at hSw); (go_simp <;> with_reducible rfl)
   try simp only [Qa, Qb, Qc, Qd]
   refine tkD (i := 1) (d := some 6) (v := ?_) rfl rfl (Or.inl ⟨by rfl, ?_⟩) (by assumption) ?_
   rotate_left
   · intro w hSw; (try dsimp only at hSw); (go_simp <;> with_reducible rfl)
   try simp only [Qa, Qb, Qc, Qd]
   refine wpAnyH_ready (rs := [2]) (by kernel_rfl) (by simp) ?_
   refine AllReadyH.cons (o := _) rfl (fun K hK => ?_) AllReadyH.nil
   go_simp
   go_at_call 62
   refine (HT.out _ HX2.b).mono ?_
   rintro e w3 ⟨⟨s, rfl, hs⟩, hb3⟩
   have hse := str_ne hs
   have HX3 := HX2.below hb3
   have g0 := cellOf (i := 0) HX3.g rfl
   have g1 := cellOf (i := 1) HX3.g rfl
   have g2 := cellOf (i := 2) HX3.g rfl
   have g3 := cellOf (i := 3) HX3.g rfl
   have g4 := cellOf (i := 4) HX3.g rfl
   have g5 := cellOf (i := 5) HX3.g rfl
   have cp3 : w3.cell? ⟨pb, po, none⟩ = _ := (HX3.b.cell hpb).trans cp
   have q3 : w3.cell? ⟨rb, ro + k * 4, none⟩ = _ := (HX3.b.cell hrb).trans q0
   refine hK.out _ _ ?_ (fun hHeld => ?_)
   · exact ⟨g0, g1, g2, g3, g4, g5, cp3, q3⟩
   clear hK K hHeld0
   try simp only [Qa, Qb, Qc, Qd]
   refine tkD (i := 3) (d := some 8) (v := ?_) rfl rfl (Or.inl ⟨by rfl, ?_⟩) (by assumption) ?_
   rotate_left
   · intro w hSw; (try dsimp only at hSw); (go_simp <;> with_reducible rfl)
   try simp only [Qa, Qb, Qc, Qd]
   refine tkD (i := 4) (d := some 9) (v := ?_) rfl rfl (Or.inl ⟨by rfl, ?_⟩) (by assumption) ?_
   rotate_left
   · intro w hSw; (try dsimp only at hSw); (go_simp <;> with_reducible rfl)
   try simp only [Qa, Qb, Qc, Qd]
   refine tkD (i := 5) (d := some 10) (v := ?_) rfl rfl (Or.inl ⟨by rfl, ?_⟩) (by assumption) ?_
   rotate_left
   · intro w hSw; (try dsimp only at hSw); (go_simp <;> with_reducible rfl)
   try simp only [Qa, Qb, Qc, Qd]
   refine tkD (i := 6) (d := some 11) (v := ?_) rfl rfl (Or.inl ⟨by rfl, ?_⟩) (by assumption) ?_
   rotate_left
   · intro w hSw; (try dsimp only at hSw); (go_simp <;> with_reducible rfl)
   try simp only [Qa, Qb, Qc, Qd]
   refine tkD (i := 7) (d := some 12) (v := ?_) rfl rfl (Or.inl ⟨by rfl, ?_⟩) (by assumption) ?_
   rotate_left
   · intro w hSw; (try dsimp only at hSw); (go_simp <;> with_reducible rfl)
   try simp only [Qa, Qb, Qc, Qd]
   refine tkD (i := 8) (d := some 13) (v := ?_) rfl rfl (Or.inl ⟨by rfl, ?_⟩) (by assumption) ?_
   rotate_left
   · intro w hSw; (try dsimp only at hSw); (go_simp <;> with_reducible rfl)
   try simp only [Qa, Qb, Qc, Qd]
   refine tkD (i := 9) (d := some 14) (v := ?_) rfl rfl (Or.inl ⟨by rfl, ?_⟩) (by assumption) ?_
   rotate_left
   · intro w hSw; (try dsimp only at hSw); (go_simp <;> with_reducible rfl)
   try simp only [Qa, Qb, Qc, Qd]
   refine tkD (i := 10) (d := some 15) (v := ?_) rfl rfl (Or.inl ⟨by rfl, ?_⟩) (by assumption) ?_
   rotate_left
   · intro w hSw; (try dsimp only at hSw); (go_simp <;> with_reducible rfl)
   try simp only [Qa, Qb, Qc, Qd]
   refine tkD (i := 11) (d := some 16) (v := ?_) rfl rfl (Or.inl ⟨by rfl, ?_⟩) (by assumption) ?_
   rotate_left
   · intro w hSw; (try dsimp only at hSw); (go_simp <;> with_reducible rfl)
   try simp only [Qa, Qb, Qc, Qd]
   refine tkD (i := 12) (d := some 17) (v := ?_) rfl rfl (Or.inl ⟨by rfl, ?_⟩) (by assumption) ?_
   rotate_left
   · intro w hSw; (try dsimp only at hSw); (go_simp <;> with_reducible rfl)
   try simp only [Qa, Qb, Qc, Qd]
   refine tkD (i := 13) (d := some 18) (v := ?_) rfl rfl (Or.inl ⟨by rfl, ?_⟩) (by assumption) ?_
   rotate_left
   · intro w hSw; (try dsimp only at hSw); (go_simp <;> with_reducible rfl)
   try simp only [Qa, Qb, Qc, Qd]
   refine tkD (i := 14) (d := some 19) (v := ?_) rfl rfl (Or.inl ⟨by rfl, ?_⟩) (by assumption) ?_
   rotate_left
   · intro w hSw; (try dsimp only at hSw); (go_simp <;> with_reducible rfl)
   try simp only [Qa, Qb, Qc, Qd]
   refine tkD (i := 15) (d := some 20) (v := ?_) rfl rfl (Or.inl ⟨by rfl, ?_⟩) (by assumption) ?_
   rotate_left
   · intro w hSw; (try dsimp only at hSw); (go_simp <;> with_reducible rfl)
   try simp only [Qa, Qb, Qc, Qd]
   refine tkD (i := 16) (d := some 21) (v := ?_) rfl rfl (Or.inl ⟨by rfl, ?_⟩) (by assumption) ?_
   rotate_left
   · intro w hSw; (try dsimp only at hSw); (go_simp <;> with_reducible rfl)
   try simp only [Qa, Qb, Qc, Qd]
   refine tkD (i := 17) (d := some 22) (v := ?_) rfl rfl (Or.inl ⟨by rfl, ?_⟩) (by assumption) ?_
   rotate_left
   · intro w hSw; (try dsimp only at hSw); (go_simp <;> with_reducible rfl)
   try simp only [Qa, Qb, Qc, Qd]
   refine tkD (i := 18) (d := some 23) (v := ?_) rfl rfl (Or.inl ⟨by rfl, ?_⟩) (by assumption) ?_
   rotate_left
   · intro w hSw; (try dsimp only at hSw); (go_simp <;> with_reducible rfl)
   try simp only [Qa, Qb, Qc, Qd]
   refine tkD (i := 19) (d := some 24) (v := ?_) rfl rfl (Or.inl ⟨by rfl, ?_⟩) (by assumption) ?_
   rotate_left
   · intro w hSw; (try dsimp only at hSw); (go_simp <;> with_reducible rfl)
   try simp only [Qa, Qb, Qc, Qd]
   refine tkD (i := 20) (d := some 25) (v := ?_) rfl rfl (Or.inl ⟨by rfl, ?_⟩) (by assumption) ?_
   rotate_left
   · intro w hSw; (try dsimp only at hSw); (go_simp <;> with_reducible rfl)
   try simp only [Qa, Qb, Qc, Qd]
   refine tkD (i := 21) (d := some 26) (v := ?_) rfl rfl (Or.inl ⟨by rfl, ?_⟩) (by assumption) ?_
   rotate_left
   · intro w hSw; (try dsimp only at hSw); (go_simp <;> with_reducible rfl)
   try simp only [Qa, Qb, Qc, Qd]
   refine tkD (i := 22) (d := some 27) (v := ?_) rfl rfl (Or.inl ⟨by rfl, ?_⟩) (by assumption) ?_
   rotate_left
   · intro w hSw; (try dsimp only at hSw); (go_simp <;> with_reducible rfl)
   try simp only [Qa, Qb, Qc, Qd]
   refine tkD (i := 23) (d := some 4) (v := ?_) rfl rfl (Or.inl ⟨by rfl, ?_⟩) (by assumption) ?_
   rotate_left
   · intro w hSw; (try dsimp only at hSw); (go_simp <;> with_reducible rfl)
   try simp only [Qa, Qb, Qc, Qd]
   refine wpAnyH_done (by kernel_rfl) ?_ _
   clear HX2 HT
   go_wp2
   go_ret
   exact ⟨rfl, HX3.b⟩
end
end Go.EvPart
