/- ItemPartials, one part of the proof: PartZ1. -/
import Derived.Test.YtljoobbnhbaklaaGreatDoorP18
import Derived.Test.YtljoobbnhbaklaaGreatDoorP22
import Derived.Test.YtljoobbnhbaklaaGreatDoorP35
import Derived.Test.YtljoobbnhbaklaaGreatDoorP36
import Derived.Test.YtljoobbnhbaklaaGreatDoorP37
set_option linter.all false
set_option maxRecDepth 100000
set_option maxHeartbeats 16000000
namespace Go.EvPart
open Go Go.Proofs Go.RowKit Go.EvNil
theorem gr_of {s : Nat} {M : Nat -> Nat} {rs : List Rl} {w : World} {F : Array Value} (h : N.GramT (N.sm s) M rs w F) (hM : ∀ i, 1 <= M i /\ M i <= 5) (hsub : rs.Sublist (N.sm s).rules) :
   ∃ ca sa cc sc rb ro rc, F = gA (N.sm s) rs ca sa cc sc rb ro rc /\ Gr (N.sm s) M rs ca sa cc sc rb ro rc w /\ CapAt w rb ro rs := by
 obtain ⟨ca, cc, sa, sc, ra, rc, rfl, hc, hy, hr, k1, k2, k3⟩ := h
 have hra := hr.at
 obtain ⟨b, o, rfl, ht, hcc⟩ := hr
 refine ⟨ca, sa, cc, sc, b, o, rc, rfl, ⟨N.sm_ok s, N.sm_nice s, hM, hsub, hc, hy.at, hra, k1, k2, k3⟩, ht.lt, fun i hi aa ac hx => ?_⟩
 obtain ⟨aa', ac', h1, _, h2⟩ := hcc i hi
 rw [h1.c3] at hx
 cases hx
 exact h2
def RetTrue (e : Ending) : Prop := e = .returned (.bool true)
attribute [local irreducible] wpStill wpAnyH in
theorem partials_any (w : World) (hT : Go.EvProp.TensAt w) (hP : Go.EvProp.PowAt w) (hw : 13 <= w.heap.size) (la : Option Addr) (ln lc : Nat) (hl : N.Nums w la ln) (hlz : ∀ q, la = some q -> q.block < w.heap.size) (hlm : ln <= maxLen) (x0 x1 at' : Int) :
   Calls Tryz.prog 3 #[.slice la ln lc, .agg #[.int .i64 x0, .int .i64 x1], .int .i64 at'] w fun e w' => RetTrue e /\ Below w.heap.size w w' := by
 have HSA := Lib.hid (fun W (hW : Below w.heap.size w W) => Go.EvProp.sanity_any W (hT.below hW) (hP.below hW))
 have HMD := Lib.hid (fun W (hW : Below w.heap.size w W) => N.made_any W la ln lc (Nat.le_trans hw hW.size) (by
   rcases hl with hl | ⟨b, o, rfl, hc⟩
   · exact .inl hl
   · exact .inr ⟨b, o, rfl, fun i hi => by obtain ⟨x, hx⟩ := hc i hi; have hbl : b < w.heap.size := hlz _ rfl; exact ⟨x, by rw [hW.cell hbl]; exact hx⟩⟩) (fun q hq => Nat.lt_of_lt_of_le (hlz q hq) hW.size) hlm)
 clear hT hP hl hlz hlm hw
 go_enter Tryz.func3, Tryz.ntmps3
 go_upto_region 3 with (first
   | (have _ := hb1; go_at_call 5; refine (HMD.out _ hb1).mono ?_; rintro e w2 ⟨⟨s, M, rs, F, rfl, hG, hMb, hsub, hr0, hSt⟩, hb2⟩; obtain ⟨ca, sa, cc, sc, rb, ro, rc, rfl, hGr, hCap⟩ := gr_of hG hMb hsub; have hn2 : w2.heap[w.heap.size]? = some (.cells #[.int .i64 x0, .int .i64 x1] 23 (0, 0)) := (by rw [hb2.block _ (heap_lt' hn1)]; exact hn1))
   | (go_at_call 4; refine (HSA.out _ ((Below.refl w.heap.size w).alloc (Nat.le_refl _) (.cells #[.int .i64 x0, .int .i64 x1] 23))).mono ?_; rintro e w1 ⟨hrt, hb10⟩; cases (show e = .returned (.bool true) from hrt); have hb1 := ((Below.refl w.heap.size w).alloc (Nat.le_refl _) (.cells #[.int .i64 x0, .int .i64 x1] 23)).trans (hb10.mono (by simp)); have hn1 : w1.heap[w.heap.size]? = some (.cells #[.int .i64 x0, .int .i64 x1] 23 (0, 0)) := (by rw [hb10.block _ (by simp)]; exact heapNew _ _)))
 have hbA : Below w2.heap.size w2 (w2.alloc (.cells #[.string (N.sm s).nm, .int .i64 (N.sm s).ver, .slice ca (N.sm s).cols.length cc, .slice sa (N.sm s).syms.length sc, .slice (some ⟨rb, ro, none⟩) rs.length rc, .int .i64 (N.sm s).st] 29)) := (Below.refl _ _).alloc (Nat.le_refl _) _
 have hb3 : Below w.heap.size w (w2.alloc (.cells #[.string (N.sm s).nm, .int .i64 (N.sm s).ver, .slice ca (N.sm s).cols.length cc, .slice sa (N.sm s).syms.length sc, .slice (some ⟨rb, ro, none⟩) rs.length rc, .int .i64 (N.sm s).st] 29)) := (hb1.trans (hb2.mono hb1.size)).trans (hbA.mono (hb1.trans (hb2.mono hb1.size)).size)
 have hg3 : (w2.alloc (.cells #[.string (N.sm s).nm, .int .i64 (N.sm s).ver, .slice ca (N.sm s).cols.length cc, .slice sa (N.sm s).syms.length sc, .slice (some ⟨rb, ro, none⟩) rs.length rc, .int .i64 (N.sm s).st] 29)).heap[w2.heap.size]? = some (.cells #[.string (N.sm s).nm, .int .i64 (N.sm s).ver, .slice ca (N.sm s).cols.length cc, .slice sa (N.sm s).syms.length sc, .slice (some ⟨rb, ro, none⟩) rs.length rc, .int .i64 (N.sm s).st] 29 (0, 0)) := heapNew _ _
 have hn3 : (w2.alloc (.cells #[.string (N.sm s).nm, .int .i64 (N.sm s).ver, .slice ca (N.sm s).cols.length cc, .slice sa (N.sm s).syms.length sc, .slice (some ⟨rb, ro, none⟩) rs.length rc, .int .i64 (N.sm s).st] 29)).heap[w.heap.size]? = some (.cells #[.int .i64 x0, .int .i64 x1] 23 (0, 0)) := by rw [hbA.block _ (heap_lt' hn2)]; exact hn2
 have hGr := Lib.hid (hGr.below hbA)
 have hCap := Lib.hid (hCap.below hbA)
 have h9 : rs.length <= 9 := Nat.le_trans hsub.length_le (N.sm_nine s)
 have HSt := Lib.hid hSt
 clear hG hMb hsub hr0 hSt hn1 hn2 hb1 hb2 hbA HSA HMD hb10
 generalize (w2.alloc (.cells #[.string (N.sm s).nm, .int .i64 (N.sm s).ver, .slice ca (N.sm s).cols.length cc, .slice sa (N.sm s).syms.length sc, .slice (some ⟨rb, ro, none⟩) rs.length rc, .int .i64 (N.sm s).st] 29)) = w3 at hb3 hg3 hn3 hGr hCap ⊢
 generalize w2.heap.size = gb at hg3 ⊢
 have g0 := cellOf (i := 0) hg3 rfl
 have g1 := cellOf (i := 1) hg3 rfl
 have g2 := cellOf (i := 2) hg3 rfl
 have g3 := cellOf (i := 3) hg3 rfl
 have g4 := cellOf (i := 4) hg3 rfl
 have g5 := cellOf (i := 5) hg3 rfl
 have n0 := cellOf (i := 0) hn3 rfl
 have n1 := cellOf (i := 1) hn3 rfl
 have HP := Lib.hid (fun W (hW : Below w3.heap.size w3 W) (x : Int) => pick_any (hGr.out.below hW) (hCap.out.below hW) h9 HSt.out x)
 go_region_held3 (fun W => W.cell? ⟨gb, 0, none⟩ = some (.string (N.sm s).nm) /\ W.cell? ⟨gb, 1, none⟩ = some (.int .i64 (N.sm s).ver) /\ W.cell? ⟨gb, 2, none⟩ = some (.slice ca (N.sm s).cols.length cc) /\ W.cell? ⟨gb, 3, none⟩ = some (.slice sa (N.sm s).syms.length sc) /\ W.cell? ⟨gb, 4, none⟩ = some (.slice (some ⟨rb, ro, none⟩) rs.length rc) /\ W.cell? ⟨gb, 5, none⟩ = some (.int .i64 (N.sm s).st) /\ W.cell? ⟨w.heap.size, 0, none⟩ = some (.int .i64 x0) /\ W.cell? ⟨w.heap.size, 1, none⟩ = some (.int .i64 x1))
   (first | exact ⟨g0, g1, g2, g3, g4, g5, n0, n1⟩ | exact ⟨p0, p1, p2, p3, p4, p5, p6, p7⟩ | exact ⟨q0, q1, q2, q3, q4, q5, q6, q7⟩)
   (first
     | (have _ := hb4; go_at_call 6; refine (HP.out w4 (((Below.refl w3.heap.size w3).drew).trans hb4) _).mono ?_; rintro e w5 ⟨⟨qa, qc, qn, q, rfl, hqL, hqP, hqc, hqm⟩, hb5⟩; have hg5 : w5.heap[gb]? = some (.cells #[.string (N.sm s).nm, .int .i64 (N.sm s).ver, .slice ca (N.sm s).cols.length cc, .slice sa (N.sm s).syms.length sc, .slice (some ⟨rb, ro, none⟩) rs.length rc, .int .i64 (N.sm s).st] 29 (0, 0)) := (by rw [hb5.block gb (heap_lt' hg4)]; exact hg4); have hn5 : w5.heap[w.heap.size]? = some (.cells #[.int .i64 x0, .int .i64 x1] 23 (0, 0)) := (by rw [hb5.block _ (heap_lt' hn4)]; exact hn4); have q0 := cellOf (i := 0) hg5 rfl; have q1 := cellOf (i := 1) hg5 rfl; have q2 := cellOf (i := 2) hg5 rfl; have q3 := cellOf (i := 3) hg5 rfl; have q4 := cellOf (i := 4) hg5 rfl; have q5 := cellOf (i := 5) hg5 rfl; have q6 := cellOf (i := 0) hn5 rfl; have q7 := cellOf (i := 1) hn5 rfl)
     | (go_at_call 6; refine (HP.out w3.drew ((Below.refl w3.heap.size w3).drew) _).mono ?_; rintro e w4 ⟨⟨pa, pc, pn, p, rfl, hpL, hpP, hpc, hpm⟩, hb4⟩; have hg4 : w4.heap[gb]? = some (.cells #[.string (N.sm s).nm, .int .i64 (N.sm s).ver, .slice ca (N.sm s).cols.length cc, .slice sa (N.sm s).syms.length sc, .slice (some ⟨rb, ro, none⟩) rs.length rc, .int .i64 (N.sm s).st] 29 (0, 0)) := (by rw [hb4.block gb (heap_lt' hg3)]; exact hg3); have hn4 : w4.heap[w.heap.size]? = some (.cells #[.int .i64 x0, .int .i64 x1] 23 (0, 0)) := (by rw [hb4.block _ (heap_lt' hn3)]; exact hn3); have p0 := cellOf (i := 0) hg4 rfl; have p1 := cellOf (i := 1) hg4 rfl; have p2 := cellOf (i := 2) hg4 rfl; have p3 := cellOf (i := 3) hg4 rfl; have p4 := cellOf (i := 4) hg4 rfl; have p5 := cellOf (i := 5) hg4 rfl; have p6 := cellOf (i := 0) hn4 rfl; have p7 := cellOf (i := 1) hn4 rfl))
 have B5 : Below w3.heap.size w3 w5 := (((Below.refl w3.heap.size w3).drew).trans hb4).trans (hb5.mono (((Below.refl w3.heap.size w3).drew).trans hb4).size)
 have G5 := Lib.hid (hGr.out.below B5)
 have P5 := Lib.hid (hpL.below hb5)
 have Q5 := Lib.hid hqL
 have b5 := hb3.trans (B5.mono hb3.size)
 have hgl : gb < w5.heap.size := heap_lt' hg5
 have HPP := Lib.hid hpP
 have HQP := Lib.hid hqP
 clear g0 g1 g2 g3 g4 g5 n0 n1 p0 p1 p2 p3 p4 p5 p6 p7 q0 q1 q2 q3 q4 q5 q6 q7 hn3 hn4 hn5 hg3 hg4 hGr hCap HP hpL hqL hb4 hb5 B5 hb3 HSt hpP hqP
 go_upto_region 5 with fail
 have L6 : LI w5 (w5.heap.size + 1) (some ⟨w5.heap.size, 0, none⟩) 1 1 ((w5.alloc (.cells #[.int .i64 (-1)] 3)).alloc (.cells (iA (some ⟨w5.heap.size, 0, none⟩) 1 1) 40)) :=
   ⟨((Below.refl _ _).alloc (Nat.le_refl _) _).alloc (by simp) _, by rw [show w5.heap.size + 1 = (w5.alloc (.cells #[.int .i64 (-1)] 3)).heap.size by simp]; exact heapNew _ _, by omega⟩
 have H6 : ListAt ((w5.alloc (.cells #[.int .i64 (-1)] 3)).alloc (.cells (iA (some ⟨w5.heap.size, 0, none⟩) 1 1) 40)) (some ⟨w5.heap.size, 0, none⟩) [-1] :=
   ListAt.below (w := w5.alloc (.cells #[.int .i64 (-1)] 3)) (fun _ => ⟨_, 0, rfl, by simp, fun i hi => by have h0 : i = 0 := (by simp at hi; omega); subst h0; exact cellOf (i := 0) (heapNew _ _) rfl⟩) ((Below.refl _ _).alloc (Nat.le_refl _) _)
 generalize ((w5.alloc (.cells #[.int .i64 (-1)] 3)).alloc (.cells (iA (some ⟨w5.heap.size, 0, none⟩) 1 1) 40)) = w6 at L6 H6 ⊢
 generalize w5.heap.size + 1 = ib at L6 ⊢
 have hg6 : w6.heap[gb]? = some (.cells #[.string (N.sm s).nm, .int .i64 (N.sm s).ver, .slice ca (N.sm s).cols.length cc, .slice sa (N.sm s).syms.length sc, .slice (some ⟨rb, ro, none⟩) rs.length rc, .int .i64 (N.sm s).st] 29 (0, 0)) := by rw [L6.b.block _ hgl]; exact hg5
 refine reg5 (G5.out.below L6.b) hg6 L6.i H6 pa qa pc pn qc qn p q (P5.out.below L6.b) (Q5.out.below L6.b) HPP.out HQP.out _ _ _ _ _ _ _ _ _ _ _ _ _ _ _ _ _ _ _ _ _ _ _ _ _ _ _ _ _ _ _ _ _ _ _ _ _ _ _ _ _ _ _ _ _ _ _ _ _ _ _ _ _ _ _ _ _ _ _ _ _ _ _ _ _ _ _ _ _ _ _ _ _ _ _ _ _ _ _ _ _ _ _ _ _ _ _ _ _ _ _ _ _ _ _ _ _ _ _ _ _ _ _ _ _ ?_
 intro z29 z30 z31 z32 z33 z34 z35 z36 z37 z38 w8 hb8
 have L8 := L6.below hb8
 have r15 := cellOf (i := 15) L8.i rfl
 have fz15 : w8.frozen? ⟨ib, 15, none⟩ = false := by simp [World.frozen?, L8.i]
 go_upto_region 8 with fail
 have L9 := L8.set pa p.length pc
 have hpl : 0 < p.length := by have h1 := HPP.out.len; have h2 := HPP.out.pos; omega
 have hql : 0 < q.length := by have h1 := HQP.out.len; have h2 := HQP.out.pos; omega
 have hp5 : p.length <= 5 := by have h1 := HPP.out.len; have h2 := HPP.out.le; have h3 := (G5.out.lim (N.sm s).st).2; omega
 have hq5 : q.length <= 5 := by have h1 := HQP.out.len; have h2 := HQP.out.le; have h3 := (G5.out.lim (N.sm s).st).2; omega
 clear L6 H6 hb8 L8 r15 fz15 hg6
 generalize w8.setCell ⟨ib, 15, none⟩ (.slice pa p.length pc) = w9 at L9 ⊢
 rw [show ((p.length : Int) == (q.length : Int)) = decide (p.length = q.length) from by rw [Bool.eq_iff_iff]; simp [Int.ofNat_inj]]
 go_upto_block 0 with fail
 go_cut [13] (fun bv wx => bv = .bool (decide (p = q)) /\ LI w5 ib pa p.length pc wx)
 case first =>
   go_wp2_with fail
   go_loopw [13, 14] (fun bv i wr => ∃ k : Nat, k <= p.length /\ i = .int .i64 k /\ ∃ b : Bool, bv = .bool b /\ (b = true -> p.length = q.length /\ p.take k = q.take k) /\ (b = false -> p ≠ q) /\ LI w5 ib pa p.length pc wr) (fun _ i _ => p.length - (RowKit.intOf i).toNat)
   case atStart => exact ⟨0, by omega, rfl, _, rfl, fun h => ⟨of_decide_eq_true h, by simp⟩, fun h e => of_decide_eq_false h (by rw [e]), L9⟩
   case round =>
     clear L9
     obtain ⟨k, hk, rfl, b, rfl, hb1, hb0, hL⟩ := hrel
     have hk5 : k <= 5 := Nat.le_trans hk hp5
     by_cases hlt : k < p.length
     · have j1 : (k : Int) < (p.length : Int) := by omega
       cases b
       · have hne := hb0 rfl
         clear hb0 hb1
         go_wp2_with fail
         go_meet
         exact ⟨by rw [decide_eq_false hne], hL⟩
       · obtain ⟨hlen, htk⟩ := hb1 rfl
         have hltq : k < q.length := by omega
         obtain ⟨pb, po, rfl, _, hpc1⟩ := (P5.out.below hL.b) hpl
         obtain ⟨qb, qo, rfl, _, hqc1⟩ := (Q5.out.below hL.b) hql
         have e1 := hpc1 k hlt
         have e2 := hqc1 k hltq
         have j0 : (0 : Int) <= (k : Int) := by omega
         have j2 : (k : Int) < (q.length : Int) := by omega
         have hb1' : (p[k] == q[k]) = true -> p.length = q.length /\ p.take (k + 1) = q.take (k + 1) := fun h => by
           have hpq : p[k] = q[k] := by simpa using h
           exact ⟨hlen, by rw [List.take_succ_eq_append_getElem hlt, List.take_succ_eq_append_getElem hltq, htk, hpq]⟩
         have hb0' : (p[k] == q[k]) = false -> p ≠ q := fun h e => by
           have hpq : ¬ p[k] = q[k] := by simpa using h
           exact hpq (by simp only [e])
         generalize hxp : p[k] = xp at e1 hb1' hb0' 
         generalize hxq : q[k] = xq at e2 hb1' hb0'
         clear hpc1 hqc1 hb1 hb0 htk
         go_upto_region 11 with fail
         go_region
         all_goals (
           go_wp2_with fail
           go_roundw
           case rel => first | exact ⟨k + 1, by omega, by go_num, _, rfl, hb1', hb0', hL.drew⟩ | ((repeat apply Exists.intro); refine ⟨?_, rfl⟩; exact ⟨k + 1, by omega, by go_num, _, rfl, hb1', hb0', hL.drew⟩)
           case measure => simp [RowKit.intOf]; omega)
     · have j1 : ¬ (k : Int) < (p.length : Int) := by omega
       have hke : k = p.length := by omega
       have hbe : b = decide (p = q) := by
         cases b
         · rw [decide_eq_false (hb0 rfl)]
         · obtain ⟨hlen, htk⟩ := hb1 rfl
           rw [hke, List.take_length, hlen, List.take_length] at htk
           rw [decide_eq_true htk]
       clear hb0 hb1
       go_wp2_with fail
       go_meet
       exact ⟨by first | rfl | rw [hbe], hL⟩
 case rest =>
   obtain ⟨rfl, hL⟩ := hcut
   have hrq : decide (p = q) = true ↔ q = p := by rw [decide_eq_true_iff]; exact eq_comm
   generalize decide (p = q) = bq at hrq ⊢
   have hg9 : wc.heap[gb]? = some (.cells #[.string (N.sm s).nm, .int .i64 (N.sm s).ver, .slice ca (N.sm s).cols.length cc, .slice sa (N.sm s).syms.length sc, .slice (some ⟨rb, ro, none⟩) rs.length rc, .int .i64 (N.sm s).st] 29 (0, 0)) := by rw [hL.b.block _ hgl]; exact hg5
   go_upto_region 12 with fail
   refine reg12 (G5.out.below hL.b) hg9 pa qa pc pn qc qn p q hL.i (P5.out.below hL.b) (Q5.out.below hL.b) HPP.out HQP.out (by omega) bq hrq _ _ _ _ _ _ _ _ _ _ _ _ _ _ _ _ _ _ _ _ _ _ _ _ _ _ _ _ _ _ _ _ _ _ _ _ _ _ _ _ _ _ _ _ _ _ _ _ _ _ _ _ _ _ _ _ _ _ _ _ _ _ _ _ _ _ _ _ _ _ _ _ _ _ _ _ _ _ _ _ _ _ _ _ _ _ _ _ _ _ _ _ _ _ _ _ _ _ _ _ _ _ _ _ ?_
   intro z64 z65 z66 z67 z68 z69 z70 z71 z72 z73 z74 z75 w11 hb11
   have L11 := hL.below hb11
   have hg11 : w11.heap[gb]? = some (.cells #[.string (N.sm s).nm, .int .i64 (N.sm s).ver, .slice ca (N.sm s).cols.length cc, .slice sa (N.sm s).syms.length sc, .slice (some ⟨rb, ro, none⟩) rs.length rc, .int .i64 (N.sm s).st] 29 (0, 0)) := by rw [L11.b.block _ hgl]; exact hg5
   have s0 := cellOf (i := 0) hg11 rfl; have s1 := cellOf (i := 1) hg11 rfl; have s2 := cellOf (i := 2) hg11 rfl; have s3 := cellOf (i := 3) hg11 rfl; have s4 := cellOf (i := 4) hg11 rfl; have s5 := cellOf (i := 5) hg11 rfl
   clear hL hg9 hb11
   go_upto_region 14 with (go_at_call 8; refine (opened_ref (G5.out.below L11.b) pa pc pn p (P5.out.below L11.b) HPP.out hpc hpm at').mono ?_; rintro e w12 ⟨⟨ok, ox, om, ohx, oh1, oh2, va, vc, he, hvL⟩, hb12⟩; have hV := opened_fits HPP.out ok ox om ohx oh1 oh2; have hvl : (p.take ok ++ -1 :: p.drop (ok + om)).length <= 100 := (by rw [List.length_append, List.length_cons, List.length_take, List.length_drop]; omega); clear oh1 oh2; generalize (p.take ok ++ -1 :: p.drop (ok + om)) = v at he hvL hV hvl; subst he; have L12 := L11.below hb12; have r15 := cellOf (i := 15) L12.i rfl; have fz15 : w12.frozen? ⟨ib, 15, none⟩ = false := by simp [World.frozen?, L12.i])
   have L13 := L12.set va v.length vc
   have hvL := list_set L12.i (i := 15) rfl hvL (.slice va v.length vc)
   generalize w12.setCell ⟨ib, 15, none⟩ (.slice va v.length vc) = w13 at L13 hvL ⊢
   have hg13 : w13.heap[gb]? = some (.cells #[.string (N.sm s).nm, .int .i64 (N.sm s).ver, .slice ca (N.sm s).cols.length cc, .slice sa (N.sm s).syms.length sc, .slice (some ⟨rb, ro, none⟩) rs.length rc, .int .i64 (N.sm s).st] 29 (0, 0)) := by rw [L13.b.block _ hgl]; exact hg5
   refine reg14 (G5.out.below L13.b) hg13 pa va pc pn vc p v L13.i (P5.out.below L13.b) hvL HPP.out hvl hV.1 hV.2 _ _ _ _ _ _ _ _ _ _ _ _ _ _ _ _ _ _ _ _ _ _ _ _ _ _ _ _ _ _ _ _ _ _ _ _ _ _ _ _ _ _ _ _ _ _ _ _ _ _ _ _ _ _ _ _ _ _ _ _ _ _ _ _ _ _ _ _ _ _ _ _ _ _ _ _ _ _ _ _ _ _ _ _ _ _ _ _ _ _ _ _ _ _ _ _ _ _ _ _ _ _ _ ?_
   intro z81 z82 z83 z84 z85 z86 z87 z88 z89 z90 z91 z92 z93 z94 z95 z96 z97 z98 z99 z100 z101 z102 z103 z104 z105 z106 w15 hb15
   have L15 := L13.below hb15
   clear r15 fz15 L12 L13 hb12 hb15 s0 s1 s2 s3 s4 s5
   go_wp2_with fail
   go_ret
   exact ⟨rfl, b5.trans (L15.b.mono b5.size)⟩
end Go.EvPart
