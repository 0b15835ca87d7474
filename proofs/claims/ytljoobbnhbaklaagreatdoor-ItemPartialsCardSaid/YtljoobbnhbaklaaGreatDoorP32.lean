/- ItemPartials, one part of the proof: PartR5. -/
import Derived.Test.YtljoobbnhbaklaaGreatDoorP24
import Derived.Test.YtljoobbnhbaklaaGreatDoorP31
set_option linter.all false
set_option maxRecDepth 100000
set_option maxHeartbeats 16000000
namespace Go.EvPart
open Go Go.Proofs Go.RowKit Go.EvNil
attribute [local irreducible] wpAnyH in
theorem sorted_any (T : List Int -> Prop) (hT : ∀ p, T p -> p.length <= 100) : ∀ (N n : Nat) (va : Option Addr) (vc : Nat) (w : World), n <= N -> n <= 1000000000000 -> n <= vc -> Progs T w va n ->
   Calls Tryz.prog 19 #[.slice va n vc] w fun e w' => RetPs T n e w' /\ Below w.heap.size w w' := by
 intro N
 induction N with
 | zero =>
   intro n va vc w hN hb hc hP
   obtain rfl : n = 0 := by omega
   have HP := Lib.hid hP
   clear hP
   go_enter Tryz.func19, Tryz.ntmps19
   go_wp2
   go_ret
   exact ⟨⟨_, _, rfl, hc, HP.out⟩, Below.refl _ _⟩
 | succ N IH =>
   intro n va vc w hN hb hc hP
   have HP := Lib.hid hP
   by_cases h2 : n < 2
   · have e0 : (n : Int) < 2 := by omega
     have e1 : decide ((n : Int) < 2) = true := by simp; omega
     clear hP IH
     go_enter Tryz.func19, Tryz.ntmps19
     go_wp2
     go_ret
     exact ⟨⟨_, _, rfl, hc, HP.out⟩, Below.refl _ _⟩
   · have e0 : ¬ (n : Int) < 2 := by omega
     have e1 : decide ((n : Int) < 2) = false := by simp; omega
     obtain ⟨h, hh⟩ : ∃ h, h = n / 2 := ⟨_, rfl⟩
     have hq0 : (n : Int).tdiv 2 = (h : Int) := by rw [Int.tdiv_eq_ediv_of_nonneg (by omega)]; omega
     have hq : wrap64 ((n : Int).tdiv 2) = (h : Int) := by rw [hq0]; exact IntWalk.wrap64_in _ ⟨by omega, by omega⟩
     have hh1 : 1 <= h /\ h < n := by omega
     have i0 : (0 : Int) <= (h : Int) := by omega
     have i1 : (h : Int) <= (n : Int) := by omega
     have i2 : (h : Int) <= (vc : Int) := by omega
     have i3 : (n : Int) <= (vc : Int) := by omega
     have i4 : ¬ vc = h := by omega
     obtain ⟨vb, vo, rfl, hvb, hvc⟩ := hP (by omega)
     have HI1 := Lib.hid (fun W (hW : Below w.heap.size w W) => IH h (some ⟨vb, vo, none⟩) vc W (by omega) (by omega) (by omega) (Progs.below (va := some ⟨vb, vo, none⟩) (fun _ => ⟨vb, vo, rfl, hvb, fun i hi => hvc i (by omega)⟩) hW))
     have HI2 := Lib.hid (fun W (hW : Below w.heap.size w W) => IH (n - h) (some ⟨vb, vo + h, none⟩) (vc - h) W (by omega) (by omega) (by omega) (Progs.below (va := some ⟨vb, vo + h, none⟩) (fun _ => ⟨vb, vo + h, rfl, hvb, fun i hi => by rw [Nat.add_assoc]; exact hvc (h + i) (by omega)⟩) hW))
     clear hvc IH hP HP hh
     go_enter Tryz.func19, Tryz.ntmps19
     go_upto_region 5 with (first
       | (have _ := hb1; go_at_call 19; refine (HI2.out _ hb1).mono ?_; rintro e w2 ⟨⟨ra, rc, rfl, hrc, hR⟩, hb2⟩)
       | (go_at_call 19; refine (HI1.out _ (Below.refl _ _)).mono ?_; rintro e w1 ⟨⟨la, lc, rfl, hlc, hL⟩, hb1⟩))
     have HB2 := hb1.trans (hb2.mono hb1.size)
     have HL := Lib.hid (fun W (hW : Below w2.heap.size w2 W) => (hL.below hb2).below hW)
     have HRt := Lib.hid (fun W (hW : Below w2.heap.size w2 W) => hR.below hW)
     clear hL hR hb1 hb2 HI1 HI2
     obtain ⟨iP, hiP, ha0, ha1, ha2⟩ := info_parts infoP
     go_wp2
     go_loopw [5, 6, 7] (fun v iv jv wr => ∃ (i j : Nat) (ys : List Value), i <= h /\ j <= n - h /\ iv = .int .i64 i /\ jv = .int .i64 j /\ Hid (ys.length = i + j) /\ Below w2.heap.size w2 wr /\ Hid (wr.ownsRow w2.heap.size 22 1 v (i + j) ys) /\ Hid (∀ y ∈ ys, IsPr T w2 y)) (fun _ iv jv _ => n - ((intOf iv).toNat + (intOf jv).toNat))
     case atStart => exact ⟨0, 0, [], Nat.zero_le _, Nat.zero_le _, rfl, rfl, Lib.hid rfl, Below.refl _ _, Lib.hid (World.ownsRow_nil _ _ _ _), Lib.hid (by simp)⟩
     case round =>
       obtain ⟨i, j, ys, hi, hj, rfl, rfl, HYL, hbr, HO, HY⟩ := hrel
       have k1 : (0 : Int) <= (i : Int) := by omega
       have k2 : (0 : Int) <= (j : Int) := by omega
       have k3 : ((n - h : Nat) : Int) = (n : Int) - (h : Int) := by omega
       have HBr := HB2.trans (hbr.mono HB2.size)
       by_cases hje : j = n - h
       · by_cases hie : i < h
         · have f1 : (i : Int) < (h : Int) := by omega
           have f2 : ((j : Int) == ((n - h : Nat) : Int)) = true := by rw [hje]; simp
           have f3 : decide ((i : Int) < (h : Int)) = true := by simp; omega
           go_wp2
           refine wp_region_held_drew (S := (fun _ => True)) (by kernel_rfl) trivial (fun hHeld0 => ?_)
           refine tkD (i := 0) (d := some 34) (v := ?_) rfl rfl (Or.inl ⟨by rfl, ?_⟩) (by assumption) ?_
           rotate_left
           · intro w hSw; (try dsimp only at hSw); (go_simp <;> with_reducible rfl)
           try simp only [Qa, Qb, Qc, Qd]
           refine tkD (i := 1) (d := some 35) (v := ?_) rfl rfl (Or.inl ⟨by rfl, ?_⟩) (by assumption) ?_
           rotate_left
           · intro w hSw; (try dsimp only at hSw); (go_simp <;> with_reducible rfl)
           try simp only [Qa, Qb, Qc, Qd]
           refine tkD (i := 2) (d := some 36) (v := ?_) rfl rfl (Or.inl ⟨by rfl, ?_⟩) (by assumption) ?_
           rotate_left
           · intro w hSw; (try dsimp only at hSw); (go_simp <;> with_reducible rfl)
           try simp only [Qa, Qb, Qc, Qd]
           refine tkD (i := 3) (d := some 37) (v := ?_) rfl rfl (Or.inl ⟨by rfl, ?_⟩) (by assumption) ?_
           rotate_left
           · intro w hSw; (try dsimp only at hSw); (go_simp <;> with_reducible rfl)
           try simp only [Qa, Qb, Qc, Qd]
           refine tkD (i := 4) (d := some 38) (v := ?_) rfl rfl (Or.inl ⟨by rfl, ?_⟩) (by assumption) ?_
           rotate_left
           · intro w hSw; (try dsimp only at hSw); (go_simp <;> with_reducible rfl)
           try simp only [Qa, Qb, Qc, Qd]
           refine tkD (i := 5) (d := some 39) (v := undef) rfl rfl (Or.inr ⟨by rfl, rfl⟩) (by assumption) ?_
           try simp only [Qa, Qb, Qc, Qd]
           refine tkD (i := 6) (d := some 40) (v := undef) rfl rfl (Or.inr ⟨by rfl, rfl⟩) (by assumption) ?_
           try simp only [Qa, Qb, Qc, Qd]
           refine tkD (i := 7) (d := some 41) (v := undef) rfl rfl (Or.inr ⟨by rfl, rfl⟩) (by assumption) ?_
           try simp only [Qa, Qb, Qc, Qd]
           refine tkD (i := 8) (d := some 42) (v := undef) rfl rfl (Or.inr ⟨by rfl, rfl⟩) (by assumption) ?_
           try simp only [Qa, Qb, Qc, Qd]
           refine tkD (i := 9) (d := some 43) (v := undef) rfl rfl (Or.inr ⟨by rfl, rfl⟩) (by assumption) ?_
           try simp only [Qa, Qb, Qc, Qd]
           refine tkD (i := 10) (d := some 44) (v := undef) rfl rfl (Or.inr ⟨by rfl, rfl⟩) (by assumption) ?_
           try simp only [Qa, Qb, Qc, Qd]
           refine tkD (i := 11) (d := some 45) (v := undef) rfl rfl (Or.inr ⟨by rfl, rfl⟩) (by assumption) ?_
           try simp only [Qa, Qb, Qc, Qd]
           refine tkD (i := 12) (d := some 46) (v := undef) rfl rfl (Or.inr ⟨by rfl, rfl⟩) (by assumption) ?_
           try simp only [Qa, Qb, Qc, Qd]
           refine tkD (i := 13) (d := some 47) (v := undef) rfl rfl (Or.inr ⟨by rfl, rfl⟩) (by assumption) ?_
           try simp only [Qa, Qb, Qc, Qd]
           refine tkD (i := 14) (d := some 48) (v := undef) rfl rfl (Or.inr ⟨by rfl, rfl⟩) (by assumption) ?_
           try simp only [Qa, Qb, Qc, Qd]
           refine tkD (i := 15) (d := some 49) (v := undef) rfl rfl (Or.inr ⟨by rfl, rfl⟩) (by assumption) ?_
           try simp only [Qa, Qb, Qc, Qd]
           refine tkD (i := 16) (d := some 50) (v := undef) rfl rfl (Or.inr ⟨by rfl, rfl⟩) (by assumption) ?_
           try simp only [Qa, Qb, Qc, Qd]
           refine tkD (i := 17) (d := some 51) (v := undef) rfl rfl (Or.inr ⟨by rfl, rfl⟩) (by assumption) ?_
           try simp only [Qa, Qb, Qc, Qd]
           refine tkD (i := 18) (d := some 52) (v := undef) rfl rfl (Or.inr ⟨by rfl, rfl⟩) (by assumption) ?_
           try simp only [Qa, Qb, Qc, Qd]
           refine tkD (i := 19) (d := some 53) (v := undef) rfl rfl (Or.inr ⟨by rfl, rfl⟩) (by assumption) ?_
           try simp only [Qa, Qb, Qc, Qd]
           refine tkD (i := 20) (d := some 54) (v := undef) rfl rfl (Or.inr ⟨by rfl, rfl⟩) (by assumption) ?_
           try simp only [Qa, Qb, Qc, Qd]
           refine tkD (i := 21) (d := some 55) (v := ?_) rfl rfl (Or.inl ⟨by rfl, ?_⟩) (by assumption) ?_
           rotate_left
           · intro w hSw; (try dsimp only at hSw); (go_simp <;> with_reducible rfl)
           try simp only [Qa, Qb, Qc, Qd]
           refine wpAnyH_done (by kernel_rfl) ?_ _
           have hbx := hbr.drew
           have HOx : Hid (wr.drew.ownsRow w2.heap.size 22 1 _ (i + j) ys) := HO
           generalize wr.drew = wx at *
           obtain ⟨sb, so, hse, hsb, hsc⟩ := HL.out _ (Below.refl _ _) (by omega)
           cases hse
           obtain ⟨y, hy, hyp⟩ := hsc i (by omega)
           obtain ⟨qa, qc, q, rfl, hqp, hqT⟩ := hyp
           have hYp : IsPr T w2 (.slice qa q.length qc) := ⟨qa, qc, q, rfl, hqp, hqT⟩
           have cy : wx.cell? ⟨sb, so + i, none⟩ = some (.slice qa q.length qc) := (hbx.cell hsb).trans hy
           have lsb : sb < wx.heap.size := Nat.lt_of_lt_of_le hsb hbx.size
           have B1 := hbx.alloc hbx.size (.cells #[.slice qa q.length qc] 22)
           clear hsc hy
           go_wp2_with (at_builtin; refine wpList_append_own _ rfl _ _ 61 rfl w2.heap.size 22 iP _ 1 24 Tryz.underlying61 hiP ha0 ha1 ha2 rfl (by decide) _ (i + j) ys rfl (HOx.out.alloc _) ⟨wx.heap.size, 0, none⟩ 1 1 [.slice qa q.length qc] rfl rfl (World.news_of_block (cs := #[.slice qa q.length qc]) (t := 22) (fr := (0, 0)) (heap_alloc_new wx _)) (by simp [Value.oneCell']) (by unfold maxLen; omega) (by omega) B1.size ?_; intro v6 w6 hown6 hgrow6 _)
           have B6 : Below w2.heap.size w2 w6 := B1.grown hgrow6 B1.size (fun g hg => by
             rcases Nat.lt_or_ge g w2.heap.size with hl | hl
             · exact absurd hg.symm (row_ge HOx.out hl)
             · exact hl)
           have O6 : Hid (w6.ownsRow w2.heap.size 22 1 v6 (i + 1 + (j)) (ys ++ [Value.slice qa q.length qc])) := Lib.hid (by rw [show i + 1 + (j) = i + j + 1 by omega]; exact hown6)
           have Y6 : Hid (∀ y ∈ ys ++ [Value.slice qa q.length qc], IsPr T w2 y) := Lib.hid fun y hy => by
             rcases List.mem_append.1 hy with hy | hy
             · exact HY.out y hy
             · simp at hy; subst hy; exact hYp
           have L6 : Hid ((ys ++ [Value.slice qa q.length qc]).length = i + 1 + (j)) := Lib.hid (by rw [List.length_append, HYL.out]; simp; omega)
           clear hown6 hgrow6
           go_roundw
           case rel => first | exact ⟨i + 1, j, _, by omega, by omega, congrArg (Value.int .i64) (by omega), congrArg (Value.int .i64) (by omega), L6, B6, O6, Y6⟩ | ((repeat apply Exists.intro); refine ⟨?_, rfl⟩; exact ⟨i + 1, j, _, by omega, by omega, congrArg (Value.int .i64) (by omega), congrArg (Value.int .i64) (by omega), L6, B6, O6, Y6⟩)
           case measure => simp [intOf]; omega
         · have g1 : ¬ (i : Int) < (h : Int) := by omega
           have g2 : decide ((i : Int) < (h : Int)) = false := by simp; omega
           have g3 : ¬ (j : Int) < ((n - h : Nat) : Int) := by omega
           have g4 : decide ((j : Int) < ((n - h : Nat) : Int)) = false := by simp; omega
           go_wp2
           go_ret
           obtain ⟨rv, rc', rfl, hrv, hPr⟩ := progs_of_own (T := T) HO.out (by omega) HYL.out (fun y hy => (HY.out y hy).below hbr)
           rw [show i + j = n by omega] at *
           exact ⟨⟨rv, rc', rfl, hrv, hPr⟩, HBr⟩
       · by_cases hie : i < h
         · have f4 : (j : Int) < ((n - h : Nat) : Int) := by omega
           have f5 : (j : Int) < (n : Int) - (h : Int) := by omega
           have f6 : ((j : Int) == ((n - h : Nat) : Int)) = false := by rw [beq_eq_false_iff_ne]; omega
           have f7 : ((j : Int) == (n : Int) - (h : Int)) = false := by rw [beq_eq_false_iff_ne]; omega
           have f1 : (i : Int) < (h : Int) := by omega
           have f3 : decide ((i : Int) < (h : Int)) = true := by simp; omega
           obtain ⟨lb, lo, hl1, hlb, hlcc⟩ := HL.out _ (Below.refl _ _) (by omega)
           cases hl1
           obtain ⟨y1, hy1, hyp1⟩ := hlcc i (by omega)
           obtain ⟨pa1, pc1, p1, rfl, hp1, hpT1⟩ := hyp1
           obtain ⟨rb, ro, hr1, hrb, hrcc⟩ := HRt.out _ (Below.refl _ _) (by omega)
           cases hr1
           obtain ⟨y2, hy2, hyp2⟩ := hrcc j (by omega)
           obtain ⟨pa2, pc2, p2, rfl, hp2, hpT2⟩ := hyp2
           have B0 := hbr.drew
           have cl : wr.drew.cell? ⟨lb, lo + i, none⟩ = some (.slice pa1 p1.length pc1) := (B0.cell hlb).trans hy1
           have cr : wr.drew.cell? ⟨rb, ro + j, none⟩ = some (.slice pa2 p2.length pc2) := (B0.cell hrb).trans hy2
           have HLs := Lib.hid (fun W (hW : Below w2.heap.size w2 W) => less_any pa2 pa1 pc2 pc1 p2 p1 W (hp2.below hW).at' (hp1.below hW).at' (hT _ hpT2) (hT _ hpT1))
           have Hy1 := Lib.hid hy1
           have HYp1 : Hid (IsPr T w2 (.slice pa1 p1.length pc1)) := Lib.hid ⟨pa1, pc1, p1, rfl, hp1, hpT1⟩
           have HYp2 : Hid (IsPr T w2 (.slice pa2 p2.length pc2)) := Lib.hid ⟨pa2, pc2, p2, rfl, hp2, hpT2⟩
           have Hy2 := Lib.hid hy2
           clear hlcc hrcc hy1 hy2 hp1 hp2 hpT1 hpT2
           go_wp2
           refine wp_region_held_drew (S := (fun W => W.cell? ⟨rb, ro + j, none⟩ = some (.slice pa2 p2.length pc2) /\ W.cell? ⟨lb, lo + i, none⟩ = some (.slice pa1 p1.length pc1))) (by kernel_rfl) ⟨cr, cl⟩ (fun hHeld0 => ?_)
           clear cl cr
           refine tkD (i := 0) (d := some 34) (v := ?_) rfl rfl (Or.inl ⟨by rfl, ?_⟩) (by assumption) ?_
           rotate_left
           · intro w hSw; (try dsimp only at hSw); (go_simp <;> with_reducible rfl)
           try simp only [Qa, Qb, Qc, Qd]
           refine tkD (i := 1) (d := some 35) (v := ?_) rfl rfl (Or.inl ⟨by rfl, ?_⟩) (by assumption) ?_
           rotate_left
           · intro w hSw; (try dsimp only at hSw); (go_simp <;> with_reducible rfl)
           try simp only [Qa, Qb, Qc, Qd]
           refine tkD (i := 2) (d := some 36) (v := ?_) rfl rfl (Or.inl ⟨by rfl, ?_⟩) (by assumption) ?_
           rotate_left
           · intro w hSw; (try dsimp only at hSw); (go_simp <;> with_reducible rfl)
           try simp only [Qa, Qb, Qc, Qd]
           refine tkD (i := 3) (d := some 37) (v := ?_) rfl rfl (Or.inl ⟨by rfl, ?_⟩) (by assumption) ?_
           rotate_left
           · intro w hSw; (try dsimp only at hSw); (go_simp <;> with_reducible rfl)
           try simp only [Qa, Qb, Qc, Qd]
           refine tkD (i := 4) (d := some 38) (v := ?_) rfl rfl (Or.inl ⟨by rfl, ?_⟩) (by assumption) ?_
           rotate_left
           · intro w hSw; (try dsimp only at hSw); (go_simp <;> with_reducible rfl)
           try simp only [Qa, Qb, Qc, Qd]
           refine tkD (i := 5) (d := some 39) (v := ?_) rfl rfl (Or.inl ⟨by rfl, ?_⟩) (by assumption) ?_
           rotate_left
           · intro w hSw; (try dsimp only at hSw); (go_simp <;> with_reducible rfl)
           try simp only [Qa, Qb, Qc, Qd]
           refine tkD (i := 6) (d := some 40) (v := ?_) rfl rfl (Or.inl ⟨by rfl, ?_⟩) (by assumption) ?_
           rotate_left
           · intro w hSw; (try dsimp only at hSw); (go_simp <;> with_reducible rfl)
           try simp only [Qa, Qb, Qc, Qd]
           refine tkD (i := 7) (d := some 41) (v := ?_) rfl rfl (Or.inl ⟨by rfl, ?_⟩) (by assumption) ?_
           rotate_left
           · intro w hSw; (try dsimp only at hSw); (go_simp <;> with_reducible rfl)
           try simp only [Qa, Qb, Qc, Qd]
           refine tkD (i := 8) (d := some 42) (v := ?_) rfl rfl (Or.inl ⟨by rfl, ?_⟩) (by assumption) ?_
           rotate_left
           · intro w hSw; (try dsimp only at hSw); (go_simp <;> with_reducible rfl)
           try simp only [Qa, Qb, Qc, Qd]
           refine tkD (i := 9) (d := some 43) (v := ?_) rfl rfl (Or.inl ⟨by rfl, ?_⟩) (by assumption) ?_
           rotate_left
           · intro w hSw; (try dsimp only at hSw); (go_simp <;> with_reducible rfl)
           try simp only [Qa, Qb, Qc, Qd]
           refine tkD (i := 10) (d := some 44) (v := ?_) rfl rfl (Or.inl ⟨by rfl, ?_⟩) (by assumption) ?_
           rotate_left
           · intro w hSw; (try dsimp only at hSw); (go_simp <;> with_reducible rfl)
           try simp only [Qa, Qb, Qc, Qd]
           refine tkD (i := 11) (d := some 45) (v := ?_) rfl rfl (Or.inl ⟨by rfl, ?_⟩) (by assumption) ?_
           rotate_left
           · intro w hSw; (try dsimp only at hSw); (go_simp <;> with_reducible rfl)
           try simp only [Qa, Qb, Qc, Qd]
           refine tkD (i := 12) (d := some 46) (v := ?_) rfl rfl (Or.inl ⟨by rfl, ?_⟩) (by assumption) ?_
           rotate_left
           · intro w hSw; (try dsimp only at hSw); (go_simp <;> with_reducible rfl)
           try simp only [Qa, Qb, Qc, Qd]
           refine tkD (i := 13) (d := some 47) (v := ?_) rfl rfl (Or.inl ⟨by rfl, ?_⟩) (by assumption) ?_
           rotate_left
           · intro w hSw; (try dsimp only at hSw); (go_simp <;> with_reducible rfl)
           try simp only [Qa, Qb, Qc, Qd]
           refine tkD (i := 14) (d := some 48) (v := ?_) rfl rfl (Or.inl ⟨by rfl, ?_⟩) (by assumption) ?_
           rotate_left
           · intro w hSw; (try dsimp only at hSw); (go_simp <;> with_reducible rfl)
           try simp only [Qa, Qb, Qc, Qd]
           refine tkD (i := 15) (d := some 49) (v := ?_) rfl rfl (Or.inl ⟨by rfl, ?_⟩) (by assumption) ?_
           rotate_left
           · intro w hSw; (try dsimp only at hSw); (go_simp <;> with_reducible rfl)
           try simp only [Qa, Qb, Qc, Qd]
           refine tkD (i := 16) (d := some 50) (v := ?_) rfl rfl (Or.inl ⟨by rfl, ?_⟩) (by assumption) ?_
           rotate_left
           · intro w hSw; (try dsimp only at hSw); (go_simp <;> with_reducible rfl)
           try simp only [Qa, Qb, Qc, Qd]
           refine tkD (i := 17) (d := some 51) (v := ?_) rfl rfl (Or.inl ⟨by rfl, ?_⟩) (by assumption) ?_
           rotate_left
           · intro w hSw; (try dsimp only at hSw); (go_simp <;> with_reducible rfl)
           try simp only [Qa, Qb, Qc, Qd]
           refine wpAnyH_ready (rs := [18]) (by kernel_rfl) (by simp) ?_
           refine AllReadyH.cons (o := _) rfl (fun K hK => ?_) AllReadyH.nil
           go_simp
           go_at_call 46
           refine (HLs.out _ B0).mono ?_
           rintro e wx ⟨⟨r, rfl⟩, hb4⟩
           have hbx : Below w2.heap.size w2 wx := B0.trans (hb4.mono B0.size)
           have HOx : Hid (wx.ownsRow w2.heap.size 22 1 _ (i + j) ys) := Lib.hid (ownsRow_below'' (show wr.drew.ownsRow _ _ _ _ _ _ from HO.out) hb4)
           refine hK.out _ _ ?_ (fun hHeld => ?_)
           · exact ⟨(hbx.cell hrb).trans Hy2.out, (hbx.cell hlb).trans Hy1.out⟩
           clear hK K hHeld0
           try simp only [Qa, Qb, Qc, Qd]
           cases r
           · refine tkD (i := 19) (d := some 53) (v := ?_) rfl rfl (Or.inl ⟨by rfl, ?_⟩) (by assumption) ?_
             rotate_left
             · intro w hSw; (try dsimp only at hSw); (go_simp <;> with_reducible rfl)
             try simp only [Qa, Qb, Qc, Qd]
             refine tkD (i := 20) (d := some 54) (v := ?_) rfl rfl (Or.inl ⟨by rfl, ?_⟩) (by assumption) ?_
             rotate_left
             · intro w hSw; (try dsimp only at hSw); (go_simp <;> with_reducible rfl)
             try simp only [Qa, Qb, Qc, Qd]
             refine tkD (i := 21) (d := some 55) (v := ?_) rfl rfl (Or.inl ⟨by rfl, ?_⟩) (by assumption) ?_
             rotate_left
             · intro w hSw; (try dsimp only at hSw); (go_simp <;> with_reducible rfl)
             try simp only [Qa, Qb, Qc, Qd]
             refine wpAnyH_done (by kernel_rfl) ?_ _
             have hYp : IsPr T w2 (.slice pa1 p1.length pc1) := HYp1.out
             have cy : wx.cell? ⟨lb, lo + i, none⟩ = some (.slice pa1 p1.length pc1) := (hbx.cell hlb).trans Hy1.out
             have lsb : lb < wx.heap.size := Nat.lt_of_lt_of_le hlb hbx.size
             clear hHeld
             have B1 := hbx.alloc hbx.size (.cells #[.slice pa1 p1.length pc1] 22)
             go_wp2_with (at_builtin; refine wpList_append_own _ rfl _ _ 61 rfl w2.heap.size 22 iP _ 1 24 Tryz.underlying61 hiP ha0 ha1 ha2 rfl (by decide) _ (i + j) ys rfl (HOx.out.alloc _) ⟨wx.heap.size, 0, none⟩ 1 1 [.slice pa1 p1.length pc1] rfl rfl (World.news_of_block (cs := #[.slice pa1 p1.length pc1]) (t := 22) (fr := (0, 0)) (heap_alloc_new wx _)) (by simp [Value.oneCell']) (by unfold maxLen; omega) (by omega) B1.size ?_; intro v6 w6 hown6 hgrow6 _)
             have B6 : Below w2.heap.size w2 w6 := B1.grown hgrow6 B1.size (fun g hg => by
               rcases Nat.lt_or_ge g w2.heap.size with hl | hl
               · exact absurd hg.symm (row_ge HOx.out hl)
               · exact hl)
             have O6 : Hid (w6.ownsRow w2.heap.size 22 1 v6 (i + 1 + (j)) (ys ++ [Value.slice pa1 p1.length pc1])) := Lib.hid (by rw [show i + 1 + (j) = i + j + 1 by omega]; exact hown6)
             have Y6 : Hid (∀ y ∈ ys ++ [Value.slice pa1 p1.length pc1], IsPr T w2 y) := Lib.hid fun y hy => by
               rcases List.mem_append.1 hy with hy | hy
               · exact HY.out y hy
               · simp at hy; subst hy; exact hYp
             have L6 : Hid ((ys ++ [Value.slice pa1 p1.length pc1]).length = i + 1 + (j)) := Lib.hid (by rw [List.length_append, HYL.out]; simp; omega)
             clear hown6 hgrow6
             go_roundw
             case rel => first | exact ⟨i + 1, j, _, by omega, by omega, congrArg (Value.int .i64) (by omega), congrArg (Value.int .i64) (by omega), L6, B6, O6, Y6⟩ | ((repeat apply Exists.intro); refine ⟨?_, rfl⟩; exact ⟨i + 1, j, _, by omega, by omega, congrArg (Value.int .i64) (by omega), congrArg (Value.int .i64) (by omega), L6, B6, O6, Y6⟩)
             case measure => simp [intOf]; omega
           · refine tkD (i := 19) (d := some 53) (v := ?_) rfl rfl (Or.inl ⟨by rfl, ?_⟩) (by assumption) ?_
             rotate_left
             · intro w hSw; (try dsimp only at hSw); (go_simp <;> with_reducible rfl)
             try simp only [Qa, Qb, Qc, Qd]
             refine tkD (i := 20) (d := some 54) (v := ?_) rfl rfl (Or.inl ⟨by rfl, ?_⟩) (by assumption) ?_
             rotate_left
             · intro w hSw; (try dsimp only at hSw); (go_simp <;> with_reducible rfl)
             try simp only [Qa, Qb, Qc, Qd]
             refine tkD (i := 21) (d := some 55) (v := ?_) rfl rfl (Or.inl ⟨by rfl, ?_⟩) (by assumption) ?_
             rotate_left
             · intro w hSw; (try dsimp only at hSw); (go_simp <;> with_reducible rfl)
             try simp only [Qa, Qb, Qc, Qd]
             refine wpAnyH_done (by kernel_rfl) ?_ _
             have hYp : IsPr T w2 (.slice pa2 p2.length pc2) := HYp2.out
             have cy : wx.cell? ⟨rb, ro + j, none⟩ = some (.slice pa2 p2.length pc2) := (hbx.cell hrb).trans Hy2.out
             have lsb : rb < wx.heap.size := Nat.lt_of_lt_of_le hrb hbx.size
             clear hHeld
             have B1 := hbx.alloc hbx.size (.cells #[.slice pa2 p2.length pc2] 22)
             go_wp2_with (at_builtin; refine wpList_append_own _ rfl _ _ 61 rfl w2.heap.size 22 iP _ 1 24 Tryz.underlying61 hiP ha0 ha1 ha2 rfl (by decide) _ (i + j) ys rfl (HOx.out.alloc _) ⟨wx.heap.size, 0, none⟩ 1 1 [.slice pa2 p2.length pc2] rfl rfl (World.news_of_block (cs := #[.slice pa2 p2.length pc2]) (t := 22) (fr := (0, 0)) (heap_alloc_new wx _)) (by simp [Value.oneCell']) (by unfold maxLen; omega) (by omega) B1.size ?_; intro v6 w6 hown6 hgrow6 _)
             have B6 : Below w2.heap.size w2 w6 := B1.grown hgrow6 B1.size (fun g hg => by
               rcases Nat.lt_or_ge g w2.heap.size with hl | hl
               · exact absurd hg.symm (row_ge HOx.out hl)
               · exact hl)
             have O6 : Hid (w6.ownsRow w2.heap.size 22 1 v6 (i + (j + 1)) (ys ++ [Value.slice pa2 p2.length pc2])) := Lib.hid (by rw [show i + (j + 1) = i + j + 1 by omega]; exact hown6)
             have Y6 : Hid (∀ y ∈ ys ++ [Value.slice pa2 p2.length pc2], IsPr T w2 y) := Lib.hid fun y hy => by
               rcases List.mem_append.1 hy with hy | hy
               · exact HY.out y hy
               · simp at hy; subst hy; exact hYp
             have L6 : Hid ((ys ++ [Value.slice pa2 p2.length pc2]).length = i + (j + 1)) := Lib.hid (by rw [List.length_append, HYL.out]; simp; omega)
             clear hown6 hgrow6
             go_roundw
             case rel => first | exact ⟨i, j + 1, _, by omega, by omega, congrArg (Value.int .i64) (by omega), congrArg (Value.int .i64) (by omega), L6, B6, O6, Y6⟩ | ((repeat apply Exists.intro); refine ⟨?_, rfl⟩; exact ⟨i, j + 1, _, by omega, by omega, congrArg (Value.int .i64) (by omega), congrArg (Value.int .i64) (by omega), L6, B6, O6, Y6⟩)
             case measure => simp [intOf]; omega
         · have f4 : (j : Int) < ((n - h : Nat) : Int) := by omega
           have f5 : (j : Int) < (n : Int) - (h : Int) := by omega
           have f6 : ((j : Int) == ((n - h : Nat) : Int)) = false := by rw [beq_eq_false_iff_ne]; omega
           have f7 : ((j : Int) == (n : Int) - (h : Int)) = false := by rw [beq_eq_false_iff_ne]; omega
           have g1 : ¬ (i : Int) < (h : Int) := by omega
           have g2 : decide ((i : Int) < (h : Int)) = false := by simp; omega
           go_wp2
           refine wp_region_held_drew (S := (fun _ => True)) (by kernel_rfl) trivial (fun hHeld0 => ?_)
           refine tkD (i := 0) (d := some 34) (v := ?_) rfl rfl (Or.inl ⟨by rfl, ?_⟩) (by assumption) ?_
           rotate_left
           · intro w hSw; (try dsimp only at hSw); (go_simp <;> with_reducible rfl)
           try simp only [Qa, Qb, Qc, Qd]
           refine tkD (i := 1) (d := some 35) (v := ?_) rfl rfl (Or.inl ⟨by rfl, ?_⟩) (by assumption) ?_
           rotate_left
           · intro w hSw; (try dsimp only at hSw); (go_simp <;> with_reducible rfl)
           try simp only [Qa, Qb, Qc, Qd]
           refine tkD (i := 2) (d := some 36) (v := ?_) rfl rfl (Or.inl ⟨by rfl, ?_⟩) (by assumption) ?_
           rotate_left
           · intro w hSw; (try dsimp only at hSw); (go_simp <;> with_reducible rfl)
           try simp only [Qa, Qb, Qc, Qd]
           refine tkD (i := 3) (d := some 37) (v := ?_) rfl rfl (Or.inl ⟨by rfl, ?_⟩) (by assumption) ?_
           rotate_left
           · intro w hSw; (try dsimp only at hSw); (go_simp <;> with_reducible rfl)
           try simp only [Qa, Qb, Qc, Qd]
           refine tkD (i := 4) (d := some 38) (v := ?_) rfl rfl (Or.inl ⟨by rfl, ?_⟩) (by assumption) ?_
           rotate_left
           · intro w hSw; (try dsimp only at hSw); (go_simp <;> with_reducible rfl)
           try simp only [Qa, Qb, Qc, Qd]
           refine tkD (i := 5) (d := some 39) (v := ?_) rfl rfl (Or.inl ⟨by rfl, ?_⟩) (by assumption) ?_
           rotate_left
           · intro w hSw; (try dsimp only at hSw); (go_simp <;> with_reducible rfl)
           try simp only [Qa, Qb, Qc, Qd]
           refine tkD (i := 6) (d := some 40) (v := ?_) rfl rfl (Or.inl ⟨by rfl, ?_⟩) (by assumption) ?_
           rotate_left
           · intro w hSw; (try dsimp only at hSw); (go_simp <;> with_reducible rfl)
           try simp only [Qa, Qb, Qc, Qd]
           refine tkD (i := 7) (d := some 41) (v := ?_) rfl rfl (Or.inl ⟨by rfl, ?_⟩) (by assumption) ?_
           rotate_left
           · intro w hSw; (try dsimp only at hSw); (go_simp <;> with_reducible rfl)
           try simp only [Qa, Qb, Qc, Qd]
           refine tkD (i := 8) (d := some 42) (v := ?_) rfl rfl (Or.inl ⟨by rfl, ?_⟩) (by assumption) ?_
           rotate_left
           · intro w hSw; (try dsimp only at hSw); (go_simp <;> with_reducible rfl)
           try simp only [Qa, Qb, Qc, Qd]
           refine tkD (i := 9) (d := some 43) (v := ?_) rfl rfl (Or.inl ⟨by rfl, ?_⟩) (by assumption) ?_
           rotate_left
           · intro w hSw; (try dsimp only at hSw); (go_simp <;> with_reducible rfl)
           try simp only [Qa, Qb, Qc, Qd]
           refine tkD (i := 10) (d := some 44) (v := undef) rfl rfl (Or.inr ⟨by rfl, rfl⟩) (by assumption) ?_
           try simp only [Qa, Qb, Qc, Qd]
           refine tkD (i := 11) (d := some 45) (v := undef) rfl rfl (Or.inr ⟨by rfl, rfl⟩) (by assumption) ?_
           try simp only [Qa, Qb, Qc, Qd]
           refine tkD (i := 12) (d := some 46) (v := undef) rfl rfl (Or.inr ⟨by rfl, rfl⟩) (by assumption) ?_
           try simp only [Qa, Qb, Qc, Qd]
           refine tkD (i := 13) (d := some 47) (v := undef) rfl rfl (Or.inr ⟨by rfl, rfl⟩) (by assumption) ?_
           try simp only [Qa, Qb, Qc, Qd]
           refine tkD (i := 14) (d := some 48) (v := undef) rfl rfl (Or.inr ⟨by rfl, rfl⟩) (by assumption) ?_
           try simp only [Qa, Qb, Qc, Qd]
           refine tkD (i := 15) (d := some 49) (v := undef) rfl rfl (Or.inr ⟨by rfl, rfl⟩) (by assumption) ?_
           try simp only [Qa, Qb, Qc, Qd]
           refine tkD (i := 16) (d := some 50) (v := undef) rfl rfl (Or.inr ⟨by rfl, rfl⟩) (by assumption) ?_
           try simp only [Qa, Qb, Qc, Qd]
           refine tkD (i := 17) (d := some 51) (v := undef) rfl rfl (Or.inr ⟨by rfl, rfl⟩) (by assumption) ?_
           try simp only [Qa, Qb, Qc, Qd]
           refine tkD (i := 18) (d := some 52) (v := undef) rfl rfl (Or.inr ⟨by rfl, rfl⟩) (by assumption) ?_
           try simp only [Qa, Qb, Qc, Qd]
           refine tkD (i := 19) (d := some 53) (v := undef) rfl rfl (Or.inr ⟨by rfl, rfl⟩) (by assumption) ?_
           try simp only [Qa, Qb, Qc, Qd]
           refine tkD (i := 20) (d := some 54) (v := ?_) rfl rfl (Or.inl ⟨by rfl, ?_⟩) (by assumption) ?_
           rotate_left
           · intro w hSw; (try dsimp only at hSw); (go_simp <;> with_reducible rfl)
           try simp only [Qa, Qb, Qc, Qd]
           refine tkD (i := 21) (d := some 55) (v := ?_) rfl rfl (Or.inl ⟨by rfl, ?_⟩) (by assumption) ?_
           rotate_left
           · intro w hSw; (try dsimp only at hSw); (go_simp <;> with_reducible rfl)
           try simp only [Qa, Qb, Qc, Qd]
           refine wpAnyH_done (by kernel_rfl) ?_ _
           have hbx := hbr.drew
           have HOx : Hid (wr.drew.ownsRow w2.heap.size 22 1 _ (i + j) ys) := HO
           generalize wr.drew = wx at *
           obtain ⟨sb, so, hse, hsb, hsc⟩ := HRt.out _ (Below.refl _ _) (by omega)
           cases hse
           obtain ⟨y, hy, hyp⟩ := hsc j (by omega)
           obtain ⟨qa, qc, q, rfl, hqp, hqT⟩ := hyp
           have hYp : IsPr T w2 (.slice qa q.length qc) := ⟨qa, qc, q, rfl, hqp, hqT⟩
           have cy : wx.cell? ⟨sb, so + j, none⟩ = some (.slice qa q.length qc) := (hbx.cell hsb).trans hy
           have lsb : sb < wx.heap.size := Nat.lt_of_lt_of_le hsb hbx.size
           have B1 := hbx.alloc hbx.size (.cells #[.slice qa q.length qc] 22)
           clear hsc hy
           go_wp2_with (at_builtin; refine wpList_append_own _ rfl _ _ 61 rfl w2.heap.size 22 iP _ 1 24 Tryz.underlying61 hiP ha0 ha1 ha2 rfl (by decide) _ (i + j) ys rfl (HOx.out.alloc _) ⟨wx.heap.size, 0, none⟩ 1 1 [.slice qa q.length qc] rfl rfl (World.news_of_block (cs := #[.slice qa q.length qc]) (t := 22) (fr := (0, 0)) (heap_alloc_new wx _)) (by simp [Value.oneCell']) (by unfold maxLen; omega) (by omega) B1.size ?_; intro v6 w6 hown6 hgrow6 _)
           have B6 : Below w2.heap.size w2 w6 := B1.grown hgrow6 B1.size (fun g hg => by
             rcases Nat.lt_or_ge g w2.heap.size with hl | hl
             · exact absurd hg.symm (row_ge HOx.out hl)
             · exact hl)
           have O6 : Hid (w6.ownsRow w2.heap.size 22 1 v6 (i + (j + 1)) (ys ++ [Value.slice qa q.length qc])) := Lib.hid (by rw [show i + (j + 1) = i + j + 1 by omega]; exact hown6)
           have Y6 : Hid (∀ y ∈ ys ++ [Value.slice qa q.length qc], IsPr T w2 y) := Lib.hid fun y hy => by
             rcases List.mem_append.1 hy with hy | hy
             · exact HY.out y hy
             · simp at hy; subst hy; exact hYp
           have L6 : Hid ((ys ++ [Value.slice qa q.length qc]).length = i + (j + 1)) := Lib.hid (by rw [List.length_append, HYL.out]; simp; omega)
           clear hown6 hgrow6
           go_roundw
           case rel => first | exact ⟨i, j + 1, _, by omega, by omega, congrArg (Value.int .i64) (by omega), congrArg (Value.int .i64) (by omega), L6, B6, O6, Y6⟩ | ((repeat apply Exists.intro); refine ⟨?_, rfl⟩; exact ⟨i, j + 1, _, by omega, by omega, congrArg (Value.int .i64) (by omega), congrArg (Value.int .i64) (by omega), L6, B6, O6, Y6⟩)
           case measure => simp [intOf]; omega
end Go.EvPart
