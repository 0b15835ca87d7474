/- ItemPartials, one part of the proof: PartW16, PartW18. -/
import Derived.Test.YtljoobbnhbaklaaGreatDoorP01
import Derived.Test.YtljoobbnhbaklaaGreatDoorP14
import Derived.Deep.RegionHeld3
import Derived.Test.YtljoobbnhbaklaaGreatDoorP08
set_option linter.all false
set_option maxRecDepth 100000
set_option maxHeartbeats 16000000
namespace Go.EvPart.N
open Go Go.Proofs Go.RowKit Go.EvNil
def RetCounts (S : Sample) (M : Nat -> Nat) (U : Nat -> Nat -> Nat) (w' : World) (base : Nat) (e : Ending) : Prop :=
 ∃ v bs, e = .returned v /\ OutRow w' base v S.syms.length bs M U
theorem counts_any (S : Sample) (hS : SOk S) (hNice : SNice S) (U : Nat -> Nat -> Nat) (w : World) (M : Nat -> Nat) (hM : ∀ i, 1 <= M i /\ M i <= 5) (rs : List Rl) (hsub : rs.Sublist S.rules) (hneedU : Need U rs) (ca sa ra : Option Addr) (cc sc rc : Nat) (hC : ColsAt w ca S.cols) (hY : SymsAt w sa S.syms M) (hR : RulesAt w ra rs) :
   Calls Tryz.prog 40 #[.agg #[.string S.nm, .int .i64 S.ver, .slice ca S.cols.length cc, .slice sa S.syms.length sc, .slice ra rs.length rc, .int .i64 S.st]] w fun e w' => RetCounts S M U w' (w.heap.size + 1) e /\ Below w.heap.size w w' := by
 have HB1 : ∀ o1, Below w.heap.size w (w.alloc o1) := fun o1 => (Below.refl _ _).alloc (Nat.le_refl _) _
 obtain ⟨i0, hi0, hz0, hz1, hz2⟩ := info_parts info118
 have HR1 := Lib.hid (fun W (hb : Below w.heap.size w W) => right_yes S hS hNice W M hM rs hsub ca sa ra cc sc rc (hC.below hb) (hY.below hb) (hR.below hb))
 have hof : ∀ W, Calls Tryz.prog 100 #[.int .i64 1] W fun e w' => RetNat 1 e /\ Below W.heap.size W w' := fun W => of_any 1 W (by decide)
 have HOF := Lib.hid hof
 have hneed := Lib.hid hneedU
 have hrule := Lib.hid (fun r hr => hS.rule r (hsub.subset hr))
 have hsn0 := hS.syms0
 have hsn := hS.syms
 have hrn : rs.length <= 40 := Nat.le_trans hsub.length_le hS.rules
 clear hof hneedU hNice
 go_enter Tryz.func40, Tryz.ntmps40
 go_wp2_with (go_at_call 38; refine (HR1.out _ (HB1 _)).mono ?_; rintro e w2 ⟨rfl, hb2⟩)
 have HX : Box w2 w.heap.size #[.string S.nm, .int .i64 S.ver, .slice ca S.cols.length cc, .slice sa S.syms.length sc, .slice ra rs.length rc, .int .i64 S.st] :=
   Box.below (B := w.heap.size + 1) ⟨by simp, heapNew w _⟩ (by omega) (hb2.mono (by simp))
 have HB : Below w.heap.size w w2 := (HB1 _).trans (hb2.mono (by simp))
 have hs2 : w.heap.size + 1 <= w2.heap.size := HX.1
 clear hb2 HR1 HB1
 go_loopw [4, 5] (fun v i wr => ∃ k : Nat, k <= S.syms.length /\ i = .int .i64 k /\ (∃ bs, OutRow wr (w.heap.size + 1) v k bs M (fun _ _ => 0)) /\ Below (w.heap.size + 1) w2 wr) (fun _ i _ => S.syms.length - (intOf i).toNat)
 case atStart => exact ⟨0, Nat.zero_le _, rfl, ⟨fun _ => 0, World.ownsRow_nil _ _ _ _, fun s hs => by omega, fun s t hs => by omega⟩, Below.refl _ _⟩
 case round =>
   obtain ⟨k, hk, rfl, ⟨bs, hrow⟩, hbr⟩ := hrel
   have HXr := HX.below (by omega) hbr
   have HBr : Below w.heap.size w wr := HB.trans (hbr.mono (by omega))
   have e3 := cellOf (i := 3) HXr.2 rfl
   have hlt1 := HXr.1
   by_cases hlt : k < S.syms.length
   · obtain ⟨sb, so, rfl, hsb, hcc⟩ := hY.below HBr
     obtain ⟨f0, f1, f2⟩ := hcc k hlt
     have hm1 := (hM k).1
     have hm5 := (hM k).2
     have j2 : (k : Int) < (S.syms.length : Int) := by omega
     have j3 : (k : Int) <= 1000 := by omega
     have j4 : (M k : Int) <= 1000 := by omega
     have hmk := mk118 (M k) hm1 hm5
     have hrw := hrow.row
     go_wp2_with (at_builtin; refine wpList_append_own _ rfl _ _ 97 rfl (w.heap.size + 1) 100 i0 (.slice none 0 0) 1 24 Tryz.underlying97 hi0 hz0 hz1 hz2 rfl (by decide) _ k _ rfl ((hrw.alloc _).alloc _) ⟨wr.heap.size + 1, 0, none⟩ 1 1 [.slice (some ⟨wr.heap.size, 0, none⟩) (M k + 1) (M k + 1)] rfl rfl (World.news_of_block (cs := #[.slice (some ⟨wr.heap.size, 0, none⟩) (M k + 1) (M k + 1)]) (t := 100) (fr := (0, 0)) (by rw [← sizeNew wr (.cells (Array.replicate (M k + 1) (.string ⟨#[]⟩)) 99)]; exact heap_alloc_new _ _)) (by simp [Value.oneCell']) (by unfold maxLen; omega) (by omega) (by simp; omega) ?_; intro v' w6 hown6 hgrow6 _)
     have HO6 := hrow.next (by omega) hown6 hgrow6
     have HB6 : Below (w.heap.size + 1) w2 w6 := (((hbr.alloc (by omega) _).alloc (by simp; omega) _).grown hgrow6 (by simp; omega) (ownB_ge hrw))
     clear hown6 hgrow6 hrw hrow hmk
     go_roundw
     case rel => first | exact ⟨k + 1, by omega, by go_num, ⟨_, HO6⟩, HB6⟩ | ((repeat apply Exists.intro); refine ⟨?_, rfl⟩; exact ⟨k + 1, by omega, by go_num, ⟨_, HO6⟩, HB6⟩)
     case measure => simp [intOf]; omega
   · obtain rfl : k = S.syms.length := by omega
     obtain ⟨og, cap, rfl, hog, hogl, hoc⟩ := hrow.form hsn0
     have hrow1 : OutRow wr (w.heap.size + 1) (.slice (some ⟨og, 0, none⟩) S.syms.length cap) S.syms.length bs M (cntB U rs 1 0) := hrow.mono fun _ _ _ _ => Nat.zero_le _
     clear hrow hoc hogl
     obtain ⟨w3, rfl⟩ : ∃ w3 : World, w3 = wr := ⟨_, rfl⟩
     go_wp2
     go_loopw [6] (fun i wz => ∃ z : Nat, 1 <= z /\ z <= 10 /\ i = .int .i64 z /\ OutRow wz (w.heap.size + 1) (.slice (some ⟨og, 0, none⟩) S.syms.length cap) S.syms.length bs M (cntB U rs z 0) /\ Below (w.heap.size + 1) w2 wz) (fun i _ => 10 - (intOf i).toNat)
     case atStart => exact ⟨1, by omega, by omega, rfl, hrow1, hbr⟩
     case round =>
       clear HXr HBr e3 hlt1 hrow1 hbr
       obtain ⟨w4, rfl⟩ : ∃ w4 : World, w4 = wr := ⟨_, rfl⟩
       obtain ⟨z, hz1', hz2', rfl, hrow, hbr⟩ := hrel
       by_cases hz9 : z <= 9
       · have jz : (z : Int) <= 9 := by omega
         go_wp2
         go_loopw [7] (fun i wk => ∃ k : Nat, k <= rs.length /\ i = .int .i64 k /\ OutRow wk (w.heap.size + 1) (.slice (some ⟨og, 0, none⟩) S.syms.length cap) S.syms.length bs M (cntB U rs z k) /\ Below (w.heap.size + 1) w2 wk) (fun i _ => rs.length - (intOf i).toNat)
         case atStart => exact ⟨0, by omega, rfl, hrow, hbr⟩
         case round =>
           clear hrow hbr
           obtain ⟨wk, rfl⟩ : ∃ wk : World, wk = wr := ⟨_, rfl⟩
           obtain ⟨k, hk', rfl, hrow, hbr⟩ := hrel
           have HXr := HX.below (by omega) hbr
           have HBr : Below w.heap.size w wk := HB.trans (hbr.mono (by omega))
           have e4 := cellOf (i := 4) HXr.2 rfl
           have e3 := cellOf (i := 3) HXr.2 rfl
           have hlt1 := HXr.1
           by_cases hltk : k < rs.length
           · obtain ⟨rb, ro, rfl, hrb, hcc⟩ := hR.below HBr
             obtain ⟨aa, ac, hrl⟩ := hcc k hltk
             obtain ⟨hh, hal, harg, _, _⟩ := hrule.out _ (List.getElem_mem hltk)
             have f0 := hrl.c0
             have f1 := hrl.c1
             have f2 := hrl.c2
             have f3 := hrl.c3
             obtain ⟨sb, so, rfl, hsb, hsc⟩ := hY.below HBr
             obtain ⟨_, _, g2⟩ := hsc _ hh
             have HAR := Lib.hid hrl.args
             have HRO := Lib.hid hrow
             have hm5 := (hM rs[k].h).2
             have j2 : (k : Int) < (rs.length : Int) := by omega
             have j3 : (k : Int) <= 1000 := by omega
             have j5 : (rs[k].h : Int) < (S.syms.length : Int) := by omega
             clear hrl hcc hsc hrow
             by_cases hzm : M rs[k].h < z
             · have jm : (M rs[k].h : Int) < (z : Int) := by omega
               go_wp2
               exact ⟨⟨k + 1, by omega, by go_num, (HRO.out.below ((Below.refl _ _).alloc (Nat.le_refl _) _)).mono fun s i _ _ => by rw [cntB_step z k s i hltk]; exact Nat.le_add_right _ _, hbr.alloc (by omega) _⟩, by simp [intOf]; omega⟩
             · have jm : ¬ (M rs[k].h : Int) < (z : Int) := by omega
               have hmk : ∀ w, (Instr.makeSlice 100 (.int .i64 10) (.int .i64 10)).run Tryz.prog w = .ok (.slice (some ⟨w.heap.size, 0, none⟩) 10 10) (w.alloc (.cells (Array.replicate 10 (.string ⟨#[]⟩)) 99)) := fun w => by kernel_rfl
               go_wp2_with (go_at_call 100; refine (HOF.out _).mono ?_; rintro e w5 ⟨⟨t1, rfl, hv1, hn1⟩, hb5⟩; have hN5 : Nats w5 (wk.heap.size + 1) 10 one1 := (by have h0 := Nats.zeros (wk.alloc (.cells #[.int .i64 rs[k].h, .string rs[k].op, .string rs[k].pa, .slice aa rs[k].args.length ac] 76)) 10 one1; rw [sizeNew] at h0; exact h0.below (by simp) hb5); obtain ⟨s0, m0, c0, _, _⟩ := hN5.cell (i := 1) (by decide); have z0 := hN5.free 1)
               have hN6 : Nats (w5.setCell ⟨wk.heap.size + 1, 1, none⟩ (.string t1)) (wk.heap.size + 1) 10 one1 := hN5.set (by decide) ⟨hv1, hn1⟩ (by decide)
               have BR : Below (wk.heap.size + 1) (wk.alloc (.cells #[.int .i64 rs[k].h, .string rs[k].op, .string rs[k].pa, .slice aa rs[k].args.length ac] 76)) (w5.setCell ⟨wk.heap.size + 1, 1, none⟩ (.string t1)) := (((Below.refl _ _).alloc (by simp) _).trans (hb5.mono (by simp))).setCell (by simp) _
               have hbox : (w5.setCell ⟨wk.heap.size + 1, 1, none⟩ (.string t1)).heap[wk.heap.size]? = some (.cells #[.int .i64 rs[k].h, .string rs[k].op, .string rs[k].pa, .slice aa rs[k].args.length ac] 76 (0, 0)) := by rw [BR.block _ (by omega)]; exact heapNew _ _
               have BK : Below wk.heap.size wk (w5.setCell ⟨wk.heap.size + 1, 1, none⟩ (.string t1)) := ((Below.refl _ _).alloc (Nat.le_refl _) _).trans (BR.mono (by omega))
               clear hN5 hb5 BR c0 z0 hv1 hn1 hmk e3 e4 f0 f1 f2 f3 g2
               generalize (w5.setCell ⟨wk.heap.size + 1, 1, none⟩ (.string t1)) = w6 at hN6 hbox BK ⊢
               have hl6 := heap_lt' hbox
               go_loopw [9, 10] (fun v i wq => ∃ j wb : Nat, wk.heap.size < wb /\ j <= rs[k].args.length /\ i = .int .i64 j /\ v = .slice (some ⟨wb, 0, none⟩) 10 10 /\ Nats wq wb 10 (convL U (rs[k].args.take j) one1) /\ Below w6.heap.size w6 wq) (fun _ i _ => rs[k].args.length - (intOf i).toNat)
               case atStart => exact ⟨0, wk.heap.size + 1, by omega, by omega, rfl, rfl, hN6, Below.refl _ _⟩
               case round =>
                 clear hN6
                 obtain ⟨j, wb, hwb, hj, rfl, rfl, hN, hbq⟩ := hrel
                 have hbxq : wr.heap[wk.heap.size]? = some (.cells #[.int .i64 rs[k].h, .string rs[k].op, .string rs[k].pa, .slice aa rs[k].args.length ac] 76 (0, 0)) := by rw [hbq.block _ hl6]; exact hbox
                 have r3 := cellOf (i := 3) hbxq rfl
                 have BKq : Below wk.heap.size wk wr := BK.trans (hbq.mono BK.size)
                 have hOq := HRO.out.below BKq
                 obtain ⟨og', cap', hfe, _, hogl, hoc⟩ := hOq.form hsn0
                 obtain ⟨rfl, rfl⟩ : og = og' /\ cap = cap' := by cases hfe; exact ⟨rfl, rfl⟩
                 clear hfe
                 by_cases hlj : j < rs[k].args.length
                 · obtain ⟨ab, ao, rfl, hab, hax⟩ := (HAR.out.below BKq) (by omega)
                   have hcx := hax j hlj
                   have hasn := harg _ (List.getElem_mem hlj)
                   have hca := hoc _ hasn
                   have hNa := (hOq.nat _ hasn).2
                   have hma := (hM rs[k].args[j]).2
                   have j6 : (0 : Int) <= (j : Int) := by omega
                   have j7 : (j : Int) < (rs[k].args.length : Int) := by omega
                   have j8 : (j : Int) <= 1000 := by omega
                   have j9 : (rs[k].args[j] : Int) < (S.syms.length : Int) := by omega
                   have hnum := numP_at U (rs[k].args.take j) rs[k].args[j] (rs[k].args.drop (j + 1)) one1 (by rw [← List.drop_eq_getElem_cons hlj, List.take_append_drop]; exact hneed.out.num _ (List.getElem_mem hltk))
                   have hle : ∀ i, i < M rs[k].args[j] + 1 -> cntB U rs z k rs[k].args[j] i <= U rs[k].args[j] i := fun i hi => cntB_le hneed.out z k _ i (by omega)
                   have HJ := Lib.hid (joined_any wb (bs rs[k].args[j]) (M rs[k].args[j] + 1) 10 (M rs[k].args[j] + 1) (convL U (rs[k].args.take j) one1) (cntB U rs z k rs[k].args[j]) wr (by omega) hN hNa hnum.1 (fun i hi => Nat.lt_of_le_of_lt (hle i hi) (hneed.out.lt _ _)) (fun i hi => Nat.lt_of_le_of_lt (sumC_mono (fun _ _ => Nat.le_refl _) hle (by omega) 10 (Nat.le_refl _)) (hnum.2 i hi)))
                   have hcv : ∀ i, i < 10 -> sumC (convL U (rs[k].args.take j) one1) (cntB U rs z k rs[k].args[j]) (M rs[k].args[j] + 1) i 10 <= convL U (rs[k].args.take (j + 1)) one1 i := fun i _ => by
                     rw [List.take_succ_eq_append_getElem hlj, convL_snoc]
                     exact sumC_mono (fun _ _ => Nat.le_refl _) hle (by omega) 10 (Nat.le_refl _)
                   have HCV := Lib.hid hcv
                   clear hN hNa hnum hle hcv hoc hOq hax
                   go_wp2_with (go_at_call 101; refine HJ.out.mono ?_; rintro e w7 ⟨rfl, hN7, hb7⟩)
                   exact ⟨⟨j + 1, wr.heap.size, by have := BKq.size; have := hbq.size; omega, by omega, by go_num, rfl, hN7.mono HCV.out, hbq.trans (hb7.mono hbq.size)⟩, by simp [intOf]; omega⟩
                 · obtain rfl : j = rs[k].args.length := by omega
                   have hco := hoc _ hh
                   obtain ⟨hbsg, hNh⟩ := hOq.nat _ hh
                   obtain ⟨sx, vo, co, no, lo⟩ := hNh.cell (i := z) (by omega)
                   obtain ⟨sw, vw, cw, nw, lw⟩ := hN.cell (i := z) (by omega)
                   have fo := hNh.free z
                   have r0 := cellOf (i := 0) hbxq rfl
                   rw [List.take_length] at lw
                   have b1 : vo < 281474976710656 := by
                     have h1 := cntB_le hneed.out z k rs[k].h z (by omega)
                     have h2 := hneed.out.lt rs[k].h z
                     omega
                   have b2 : vw < 281474976710656 := Nat.lt_of_le_of_lt lw (numP_end U _ one1 (hneed.out.num _ (List.getElem_mem hltk)) z (by omega))
                   have l1 : bs rs[k].h < wr.heap.size := hNh.1
                   have l2 := heap_lt' hbxq
                   have j10 : (0 : Int) <= (z : Int) := by omega
                   have j11 : (z : Int) < (M rs[k].h : Int) + 1 := by omega
                   have j12 : (z : Int) < 10 := by omega
                   have j13 : (0 : Int) <= (rs[k].h : Int) := by omega
                   have l3 : wb < wr.heap.size := hN.1
                   have l4 : bs rs[k].h < wk.heap.size := (HRO.out.nat _ hh).2.1
                   have nw3 : og ≠ bs rs[k].h := fun e => by
                     obtain ⟨_, csx, hcsx, _⟩ := hNh
                     exact ownsRow_ne hOq.row hcsx (by decide) (by simp [Value.ownBlock, e])
                   have HOQ := Lib.hid hOq
                   clear hN hNh hOq hoc
                   go_wp2
                   have nw1 : wk.heap.size ≠ bs rs[k].h := by omega
                   have nw2 : wb ≠ bs rs[k].h := by omega
                   refine wp_region_held_drew (S := (fun W => W.cell? ⟨wk.heap.size, 0, none⟩ = some (.int .i64 rs[k].h) /\ W.cell? ⟨og, rs[k].h, none⟩ = some (.slice (some ⟨bs rs[k].h, 0, none⟩) (M rs[k].h + 1) (M rs[k].h + 1)) /\ W.cell? ⟨wb, z, none⟩ = some (.string sw))) (by kernel_rfl) ?_ (fun hHeld => ?_)
                   · exact ⟨r0, hco, cw⟩
                   refine wpAnyH_take (i := 0) (oi := _) (v := ?_) rfl (by kernel_rfl) (by kernel_rfl) (by kernel_rfl) (fun _ _ _ h => h) (Or.inl ⟨by rfl, ?_⟩) (by assumption) ?_
                   rotate_left
                   · intro w hSw; (try dsimp only at hSw); (go_simp <;> with_reducible rfl)
                   try simp only [Act.put, List.setIfInBounds_toArray, List.set_cons_zero, List.set_cons_succ]
                   refine wpAnyH_take (i := 1) (oi := _) (v := ?_) rfl (by kernel_rfl) (by kernel_rfl) (by kernel_rfl) (fun _ _ _ h => h) (Or.inl ⟨by rfl, ?_⟩) (by assumption) ?_
                   rotate_left
                   · intro w hSw; (try dsimp only at hSw); (go_simp <;> with_reducible rfl)
                   try simp only [Act.put, List.setIfInBounds_toArray, List.set_cons_zero, List.set_cons_succ]
                   refine wpAnyH_take (i := 2) (oi := _) (v := ?_) rfl (by kernel_rfl) (by kernel_rfl) (by kernel_rfl) (fun _ _ _ h => h) (Or.inl ⟨by rfl, ?_⟩) (by assumption) ?_
                   rotate_left
                   · intro w hSw; (try dsimp only at hSw); (go_simp <;> with_reducible rfl)
                   try simp only [Act.put, List.setIfInBounds_toArray, List.set_cons_zero, List.set_cons_succ]
                   refine wpAnyH_take (i := 3) (oi := _) (v := ?_) rfl (by kernel_rfl) (by kernel_rfl) (by kernel_rfl) (fun _ _ _ h => h) (Or.inl ⟨by rfl, ?_⟩) (by assumption) ?_
                   rotate_left
                   · intro w hSw; (try dsimp only at hSw); (go_simp <;> with_reducible rfl)
                   try simp only [Act.put, List.setIfInBounds_toArray, List.set_cons_zero, List.set_cons_succ]
                   refine wpAnyH_take (i := 4) (oi := _) (v := ?_) rfl (by kernel_rfl) (by kernel_rfl) (by kernel_rfl) (fun _ _ _ h => h) (Or.inl ⟨by rfl, ?_⟩) (by assumption) ?_
                   rotate_left
                   · intro w hSw; (try dsimp only at hSw); (go_simp <;> with_reducible rfl)
                   try simp only [Act.put, List.setIfInBounds_toArray, List.set_cons_zero, List.set_cons_succ]
                   refine wpAnyH_take (i := 5) (oi := _) (v := ?_) rfl (by kernel_rfl) (by kernel_rfl) (by kernel_rfl) (fun _ _ _ h => h) (Or.inl ⟨by rfl, ?_⟩) (by assumption) ?_
                   rotate_left
                   · intro w hSw; (try dsimp only at hSw); (go_simp <;> with_reducible rfl)
                   try simp only [Act.put, List.setIfInBounds_toArray, List.set_cons_zero, List.set_cons_succ]
                   refine wpAnyH_take (i := 6) (oi := _) (v := ?_) rfl (by kernel_rfl) (by kernel_rfl) (by kernel_rfl) (fun _ _ _ h => h) (Or.inl ⟨by rfl, ?_⟩) (by assumption) ?_
                   rotate_left
                   · intro w hSw; (try dsimp only at hSw); (go_simp <;> with_reducible rfl)
                   try simp only [Act.put, List.setIfInBounds_toArray, List.set_cons_zero, List.set_cons_succ]
                   refine wpAnyH_take (i := 7) (oi := _) (v := ?_) rfl (by kernel_rfl) (by kernel_rfl) (by kernel_rfl) (fun _ _ _ h => h) (Or.inl ⟨by rfl, ?_⟩) (by assumption) ?_
                   rotate_left
                   · intro w hSw; (try dsimp only at hSw); (go_simp <;> with_reducible rfl)
                   try simp only [Act.put, List.setIfInBounds_toArray, List.set_cons_zero, List.set_cons_succ]
                   refine wpAnyH_take (i := 8) (oi := _) (v := ?_) rfl (by kernel_rfl) (by kernel_rfl) (by kernel_rfl) (fun _ _ _ h => h) (Or.inl ⟨by rfl, ?_⟩) (by assumption) ?_
                   rotate_left
                   · intro w hSw; (try dsimp only at hSw); (go_simp <;> with_reducible rfl)
                   try simp only [Act.put, List.setIfInBounds_toArray, List.set_cons_zero, List.set_cons_succ]
                   refine wpAnyH_take (i := 9) (oi := _) (v := ?_) rfl (by kernel_rfl) (by kernel_rfl) (by kernel_rfl) (fun _ _ _ h => h) (Or.inl ⟨by rfl, ?_⟩) (by assumption) ?_
                   rotate_left
                   · intro w hSw; (try dsimp only at hSw); (go_simp <;> with_reducible rfl)
                   try simp only [Act.put, List.setIfInBounds_toArray, List.set_cons_zero, List.set_cons_succ]
                   refine wpAnyH_take (i := 10) (oi := _) (v := ?_) rfl (by kernel_rfl) (by kernel_rfl) (by kernel_rfl) (fun _ _ _ h => h) (Or.inl ⟨by rfl, ?_⟩) (by assumption) ?_
                   rotate_left
                   · intro w hSw; (try dsimp only at hSw); (go_simp <;> with_reducible rfl)
                   try simp only [Act.put, List.setIfInBounds_toArray, List.set_cons_zero, List.set_cons_succ]
                   refine wpAnyH_take (i := 11) (oi := _) (v := ?_) rfl (by kernel_rfl) (by kernel_rfl) (by kernel_rfl) (fun _ _ _ h => h) (Or.inl ⟨by rfl, ?_⟩) (by assumption) ?_
                   rotate_left
                   · intro w hSw; (try dsimp only at hSw); (go_simp <;> with_reducible rfl)
                   try simp only [Act.put, List.setIfInBounds_toArray, List.set_cons_zero, List.set_cons_succ]
                   refine wpAnyH_take (i := 12) (oi := _) (v := ?_) rfl (by kernel_rfl) (by kernel_rfl) (by kernel_rfl) (fun _ _ _ h => h) (Or.inl ⟨by rfl, ?_⟩) (by assumption) ?_
                   rotate_left
                   · intro w hSw; (try dsimp only at hSw); (go_simp <;> with_reducible rfl)
                   try simp only [Act.put, List.setIfInBounds_toArray, List.set_cons_zero, List.set_cons_succ]
                   refine wpAnyH_take (i := 14) (oi := _) (v := ?_) rfl (by kernel_rfl) (by kernel_rfl) (by kernel_rfl) (fun _ _ _ h => h) (Or.inl ⟨by rfl, ?_⟩) (by assumption) ?_
                   rotate_left
                   · intro w hSw; (try dsimp only at hSw); (go_simp <;> with_reducible rfl)
                   try simp only [Act.put, List.setIfInBounds_toArray, List.set_cons_zero, List.set_cons_succ]
                   refine wpAnyH_take (i := 15) (oi := _) (v := ?_) rfl (by kernel_rfl) (by kernel_rfl) (by kernel_rfl) (fun _ _ _ h => h) (Or.inl ⟨by rfl, ?_⟩) (by assumption) ?_
                   rotate_left
                   · intro w hSw; (try dsimp only at hSw); (go_simp <;> with_reducible rfl)
                   try simp only [Act.put, List.setIfInBounds_toArray, List.set_cons_zero, List.set_cons_succ]
                   refine wpAnyH_take (i := 16) (oi := _) (v := ?_) rfl (by kernel_rfl) (by kernel_rfl) (by kernel_rfl) (fun _ _ _ h => h) (Or.inl ⟨by rfl, ?_⟩) (by assumption) ?_
                   rotate_left
                   · intro w hSw; (try dsimp only at hSw); (go_simp <;> with_reducible rfl)
                   try simp only [Act.put, List.setIfInBounds_toArray, List.set_cons_zero, List.set_cons_succ]
                   refine wpAnyH_take (i := 17) (oi := _) (v := ?_) rfl (by kernel_rfl) (by kernel_rfl) (by kernel_rfl) (fun _ _ _ h => h) (Or.inl ⟨by rfl, ?_⟩) (by assumption) ?_
                   rotate_left
                   · intro w hSw; (try dsimp only at hSw); (go_simp <;> with_reducible rfl)
                   try simp only [Act.put, List.setIfInBounds_toArray, List.set_cons_zero, List.set_cons_succ]
                   refine wpAnyH_ready (rs := [13]) (by kernel_rfl) (by simp) ?_
                   refine AllReadyH.cons (o := _) rfl (fun K hK => ?_) AllReadyH.nil
                   go_simp
                   refine hK.out _ _ ?_ (fun hHeld => ?_)
                   · exact ⟨r0, hco, cw⟩
                   clear hK K
                   try simp only [Act.put, List.setIfInBounds_toArray, List.set_cons_zero, List.set_cons_succ]
                   refine wpAnyH_ready (rs := [18]) (by kernel_rfl) (by simp) ?_
                   refine AllReadyH.cons (o := _) rfl (fun K hK => ?_) AllReadyH.nil
                   go_simp
                   go_at_call 41
                   refine (add_small sx sw vo vw _ no nw b1 b2).mono ?_
                   rintro e w8 ⟨⟨t2, rfl, hv2, hn2⟩, hb8⟩
                   have g3 : w8.frozen? ⟨bs rs[k].h, z, none⟩ = false := (by rw [hb8.frozen (by simpa using l1)]; exact fo); have g4 : w8.cell? ⟨bs rs[k].h, z, none⟩ = some (.string sx) := (by rw [hb8.cell (by simpa using l1)]; exact co); have g5 : w8.cell? ⟨og, rs[k].h, none⟩ = some (.slice (some ⟨bs rs[k].h, 0, none⟩) (M rs[k].h + 1) (M rs[k].h + 1)) := (by rw [hb8.cell (by simpa using hogl)]; exact hco); have g6 : w8.cell? ⟨wk.heap.size, 0, none⟩ = some (.int .i64 rs[k].h) := (by rw [hb8.cell (by simpa using l2)]; exact r0); have g7 : w8.cell? ⟨wb, z, none⟩ = some (.string sw) := (by rw [hb8.cell (by simpa using l3)]; exact cw)
                   refine hK.out _ _ ?_ (fun hHeld => ?_)
                   · exact ⟨g6, g5, g7⟩
                   clear hK K
                   try simp only [Act.put, List.setIfInBounds_toArray, List.set_cons_zero, List.set_cons_succ]
                   refine wpAnyH_take (i := 19) (oi := _) (v := ?_) rfl (by kernel_rfl) (by kernel_rfl) (by kernel_rfl) (fun _ _ _ h => h) (Or.inl ⟨by rfl, ?_⟩) (by assumption) ?_
                   rotate_left
                   · intro w hSw; (try dsimp only at hSw); (go_simp <;> with_reducible rfl)
                   try simp only [Act.put, List.setIfInBounds_toArray, List.set_cons_zero, List.set_cons_succ]
                   refine wpAnyH_ready (rs := [20]) (by kernel_rfl) (by simp) ?_
                   refine AllReadyH.cons (o := _) rfl (fun K hK => ?_) AllReadyH.nil
                   go_simp
                   refine hK.out _ _ ?_ (fun hHeld => ?_)
                   · exact ⟨(World.cell?_of_block (Below.heap_setCell _ _ _ _ nw1)).trans g6, (World.cell?_of_block (Below.heap_setCell _ _ _ _ nw3)).trans g5, (World.cell?_of_block (Below.heap_setCell _ _ _ _ nw2)).trans g7⟩
                   clear hK K
                   try simp only [Act.put, List.setIfInBounds_toArray, List.set_cons_zero, List.set_cons_succ]
                   refine wpAnyH_done (by kernel_rfl) ?_ _
                   all_goals (
                     have hfin : OutRow (w8.setCell ⟨bs rs[k].h, z, none⟩ (.string t2)) (w.heap.size + 1) (.slice (some ⟨og, 0, none⟩) S.syms.length cap) S.syms.length bs M (cntB U rs z (k + 1)) := (OutRow.below (w := wr.drew) (HOQ.out.below ((Below.refl _ _).drew)) hb8).set (fun s i _ _ => by rw [cntB_step z k s i hltk]; exact Nat.le_add_right _ _) hh (by omega) ⟨hv2, hn2⟩ (by rw [cntB_step z k _ z hltk, if_pos ⟨rfl, rfl⟩]; omega)
                     have hfb : Below (w.heap.size + 1) w2 (w8.setCell ⟨bs rs[k].h, z, none⟩ (.string t2)) := (((hbr.trans (BKq.mono (by omega))).drew).trans (hb8.mono (by show w.heap.size + 1 <= wr.heap.size; omega))).setCell hbsg _
                     have HF := Lib.hid hfin
                     clear hfin g3 g4 g5 g6 g7 co cw fo r0 hco
                     go_wp2
                     go_roundw
                     case rel => first | exact ⟨k + 1, by omega, by go_num, HF.out, hfb⟩ | ((repeat apply Exists.intro); refine ⟨?_, rfl⟩; exact ⟨k + 1, by omega, by go_num, HF.out, hfb⟩)
                     case measure => simp [intOf]; omega)
           · obtain rfl : k = rs.length := by omega
             have hnx : OutRow wk (w.heap.size + 1) (.slice (some ⟨og, 0, none⟩) S.syms.length cap) S.syms.length bs M (cntB U rs (z + 1) 0) := hrow.mono fun s i _ hi => cntB_next hneed.out z s i (by have := (hM s).2; omega)
             clear hrow
             go_wp2
             exact ⟨⟨z + 1, by omega, by omega, by go_num, hnx, hbr⟩, by simp [intOf]; omega⟩
       · obtain rfl : z = 10 := by omega
         have hfin : OutRow w4 (w.heap.size + 1) (.slice (some ⟨og, 0, none⟩) S.syms.length cap) S.syms.length bs M U := hrow.mono fun s i _ hi => cntB_le hneed.out 10 0 s i (by have := (hM s).2; omega)
         have HF := Lib.hid hfin
         have HFB := Lib.hid (HB.trans (hbr.mono (by omega)))
         clear hrow hbr hfin
         go_wp2
         go_ret
         exact ⟨⟨_, bs, rfl, HF.out⟩, HFB.out⟩
end Go.EvPart.N
namespace Go.EvPart.N
open Go Go.Proofs Go.RowKit Go.EvNil
def RetI (e : Ending) : Prop := ∃ n : Int, e = .returned (.int .i64 n)
theorem fits_any (S : Sample) (hS : SOk S) (hty : tyAll S = true) (w : World) (M : Nat -> Nat) (rn : Nat) (ca sa ra : Option Addr) (cc sc rc : Nat) (hC : ColsAt w ca S.cols) (hY : SymsAt w sa S.syms M) (r : Rl) (hr : r ∈ S.rules) (aa : Option Addr) (ac : Nat) (hA : ArgsAt w aa r.args) (bv : Value) (hB : BaseOk w bv) :
   Calls Tryz.prog 39 #[.agg #[.string S.nm, .int .i64 S.ver, .slice ca S.cols.length cc, .slice sa S.syms.length sc, .slice ra rn rc, .int .i64 S.st], .agg #[.int .i64 r.h, .string r.op, .string r.pa, .slice aa r.args.length ac], bv] w fun e w' => RetI e /\ Below w.heap.size w w' := by
 have HB2 : ∀ o1 o2, Below w.heap.size w ((w.alloc o1).alloc o2) := fun o1 o2 => ((Below.refl _ _).alloc (Nat.le_refl _) _).alloc (by simp) _
 have HT := Lib.hid (fun W (hb : Below w.heap.size w W) => types_any S hty r hr W bv ca cc (hB.below hb) (hC.below hb))
 obtain ⟨hh, hal, harg, _, _⟩ := hS.rule r hr
 have hsn := hS.syms
 go_enter Tryz.func39, Tryz.ntmps39
 go_upto_region 2 with (go_at_call 99; refine (HT.out _ (HB2 _ _)).mono ?_; rintro e w2 ⟨⟨ta, tl, tc, kd, er, rfl, hI⟩, hb2⟩)
 have HX : Boxes w2 w.heap.size (w.heap.size + 1) #[.string S.nm, .int .i64 S.ver, .slice ca S.cols.length cc, .slice sa S.syms.length sc, .slice ra rn rc, .int .i64 S.st] #[.int .i64 r.h, .string r.op, .string r.pa, .slice aa r.args.length ac] := by
   have z := hb2.size
   simp only [sizeNew] at z
   refine ⟨by omega, by omega, ?_, ?_⟩
   · rw [hb2.block _ (by simp only [sizeNew]; omega), heapOld _ _ (by simp only [sizeNew]; omega)]
     exact heapNew w _
   · rw [hb2.block _ (by simp only [sizeNew]; omega)]
     have := heapNew (w.alloc (.cells #[.string S.nm, .int .i64 S.ver, .slice ca S.cols.length cc, .slice sa S.syms.length sc, .slice ra rn rc, .int .i64 S.st] 29)) (.cells #[.int .i64 r.h, .string r.op, .string r.pa, .slice aa r.args.length ac] 76)
     rw [sizeNew] at this
     exact this
 have HB : Below w.heap.size w w2 := (HB2 _ _).trans (hb2.mono (by simp; omega))
 clear hb2 HT HB2
 by_cases her : er = 0
 · subst her
   have r3 := cellOf (i := 3) HX.2.2.2 rfl
   have r0 := cellOf (i := 0) HX.2.2.2 rfl
   have g3 := cellOf (i := 3) HX.2.2.1 rfl
   obtain ⟨sb, so, rfl, hsb, hsc⟩ := hY.below HB
   by_cases hl : tl = r.args.length
   · subst hl
     obtain ⟨_, k1, _⟩ := hsc _ hh
     have j5 : (r.h : Int) < (S.syms.length : Int) := by omega
     have j6 : ((r.args.length : Int) != (r.args.length : Int)) = false := by simp
     by_cases hkd : ((S.syms[r.h].2 : Int) != kd) = true
     · go_wp2
       go_ret
       exact ⟨⟨_, rfl⟩, HB⟩
     · have hkd' : ((S.syms[r.h].2 : Int) != kd) = false := by simpa using hkd
       go_wp2
       go_loopw [10] (fun i wr => ∃ k : Nat, k <= r.args.length /\ i = .int .i64 k /\ Below w2.heap.size w2 wr) (fun i _ => r.args.length - (RowKit.intOf i).toNat)
       case atStart => exact ⟨0, by omega, rfl, Below.refl _ _⟩
       case round =>
         clear k1 r0 r3 g3 hsc hsb
         obtain ⟨k, hk, rfl, hbr⟩ := hrel
         have HXr := HX.below hbr
         have HBr : Below w.heap.size w wr := HB.trans (hbr.mono HB.size)
         have r3 := cellOf (i := 3) HXr.2.2.2 rfl
         have g3 := cellOf (i := 3) HXr.2.2.1 rfl
         by_cases hlt : k < r.args.length
         · obtain ⟨ab, ao, rfl, hab, hac⟩ := (hA.below HBr) (by omega)
           have a1 := hac k hlt
           obtain ⟨sb', so', hse, hsb, hsc⟩ := hY.below HBr
           cases hse
           obtain ⟨_, k1, _⟩ := hsc _ (harg _ (List.getElem_mem hlt))
           obtain ⟨tb, to1, rfl, htb, htc⟩ := (hI.below hbr).2 (by omega)
           obtain ⟨x, hx⟩ := htc k hlt
           have j1 : (0 : Int) <= (k : Int) := by omega
           have j2 : (k : Int) < (r.args.length : Int) := by omega
           have j3 : (k : Int) <= 1000 := by omega
           have j4 : (r.args[k] : Int) < (S.syms.length : Int) := by have := harg _ (List.getElem_mem hlt); omega
           have j7 : (0 : Int) <= (r.args[k] : Int) := by omega
           clear hac hsc htc
           go_wp2
           go_quiet (fail)
           go_wp2
           all_goals first
             | (go_roundw
                case rel => first | exact ⟨k + 1, by omega, by go_num, hbr.trans (Drawn.below ⟨_, rfl⟩ _)⟩ | ((repeat apply Exists.intro); refine ⟨?_, rfl⟩; exact ⟨k + 1, by omega, by go_num, hbr.trans (Drawn.below ⟨_, rfl⟩ _)⟩)
                case measure => simp [RowKit.intOf]; omega)
             | (go_ret; exact ⟨⟨_, rfl⟩, HBr.trans (Drawn.below ⟨_, rfl⟩ _)⟩)
         · go_wp2
           go_ret
           exact ⟨⟨_, rfl⟩, HBr⟩
   · have j6 : ((tl : Int) != (r.args.length : Int)) = true := by simp; omega
     go_wp2
     go_ret
     exact ⟨⟨_, rfl⟩, HB⟩
 · have her' : (er != 0) = true := by simp [her]
   go_wp2
   go_ret
   exact ⟨⟨_, rfl⟩, HB⟩
end Go.EvPart.N
