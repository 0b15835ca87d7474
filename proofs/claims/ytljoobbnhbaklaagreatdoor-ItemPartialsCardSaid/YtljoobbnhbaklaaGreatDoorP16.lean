/- ItemPartials, one part of the proof: PartW19. -/
import Derived.Test.YtljoobbnhbaklaaGreatDoorP15
import Derived.Deep.CutBlock
set_option linter.all false
set_option maxRecDepth 100000
set_option maxHeartbeats 16000000
namespace Go.EvPart.N
open Go Go.Proofs Go.RowKit Go.EvNil
def CountsOk (S : Sample) (M : Nat -> Nat) (U : Nat -> Nat -> Nat) (w : World) (va : Option Addr) (n : Nat) : Prop :=
 n <= 12 /\ (0 < n -> ∃ (g : Nat) (bs : Nat -> Nat), va = some ⟨g, 0, none⟩ /\ g < w.heap.size /\ ∀ s, s < n -> w.cell? ⟨g, s, none⟩ = some (.slice (some ⟨bs s, 0, none⟩) (M s + 1) (M s + 1)) /\ Nats w (bs s) (M s + 1) (U s))
theorem CountsOk.below {S : Sample} {M : Nat -> Nat} {U : Nat -> Nat -> Nat} {w w' : World} {va : Option Addr} {n : Nat} (h : CountsOk S M U w va n) (hb : Below w.heap.size w w') : CountsOk S M U w' va n :=
 ⟨h.1, fun h0 => by
   obtain ⟨g, bs, e, hl, hc⟩ := h.2 h0
   exact ⟨g, bs, e, Nat.lt_of_lt_of_le hl hb.size, fun s hs => ⟨by rw [hb.cell hl]; exact (hc s hs).1, (hc s hs).2.below (hc s hs).2.1 hb⟩⟩⟩
theorem counts_read (S : Sample) (hS : SOk S) (hNice : SNice S) (U : Nat -> Nat -> Nat) (w : World) (M : Nat -> Nat) (hM : ∀ i, 1 <= M i /\ M i <= 5) (rs : List Rl) (hsub : rs.Sublist S.rules) (hneedU : Need U rs) (ca sa ra : Option Addr) (cc sc rc : Nat) (hC : ColsAt w ca S.cols) (hY : SymsAt w sa S.syms M) (hR : RulesAt w ra rs) :
   Calls Tryz.prog 40 #[.agg #[.string S.nm, .int .i64 S.ver, .slice ca S.cols.length cc, .slice sa S.syms.length sc, .slice ra rs.length rc, .int .i64 S.st]] w fun e w' => (∃ va vc, e = .returned (.slice va S.syms.length vc) /\ CountsOk S M U w' va S.syms.length) /\ Below w.heap.size w w' :=
 (counts_any S hS hNice U w M hM rs hsub hneedU ca sa ra cc sc rc hC hY hR).mono fun e w' ⟨h, hb⟩ => ⟨by
   obtain ⟨v, bs, rfl, hO⟩ := h
   obtain ⟨g, cap, rfl, _, hl, hc⟩ := hO.form hS.syms0
   exact ⟨_, _, rfl, hS.syms, fun _ => ⟨g, bs, rfl, hl, fun s hs => ⟨hc s hs, (hO.nat s hs).2⟩⟩⟩, hb⟩
def Bools (w : World) (b n : Nat) : Prop := ∃ cs : Array Value, w.heap[b]? = some (.cells cs 4 (0, 0)) /\ cs.size = n /\ ∀ i, i < n -> ∃ x, cs[i]? = some (.bool x)
theorem Bools.cell {w : World} {b n : Nat} (h : Bools w b n) {i : Nat} (hi : i < n) : ∃ x, w.cell? ⟨b, i, none⟩ = some (.bool x) := by
 obtain ⟨cs, h1, h2, h3⟩ := h
 obtain ⟨x, e⟩ := h3 i hi
 exact ⟨x, cellOf h1 e⟩
theorem Bools.free {w : World} {b n : Nat} (h : Bools w b n) (i : Nat) : w.frozen? ⟨b, i, none⟩ = false := by
 obtain ⟨cs, h1, _⟩ := h
 simp [World.frozen?, h1]
theorem Bools.set {w : World} {b n : Nat} (h : Bools w b n) (j : Nat) (x : Bool) : Bools (w.setCell ⟨b, j, none⟩ (.bool x)) b n := by
 obtain ⟨cs, h1, h2, h3⟩ := h
 refine ⟨cs.setIfInBounds j (.bool x), Joins.block_setCell h1 _, by simpa using h2, fun i hi => ?_⟩
 by_cases e : i = j
 · subst e
   exact ⟨x, by simp [h2, hi]⟩
 · obtain ⟨y, a⟩ := h3 i hi
   exact ⟨y, by rw [Array.getElem?_setIfInBounds_ne (Ne.symm e)]; exact a⟩
theorem Bools.new (w : World) (n : Nat) : Bools (w.alloc (.cells (Array.replicate n (.bool false)) 4)) w.heap.size n :=
 ⟨_, heapNew w _, by simp, fun i hi => ⟨false, by simp [hi]⟩⟩
theorem Bools.new1 (w : World) (n j : Nat) : Bools (w.alloc (.cells ((Array.replicate n (.bool false)).setIfInBounds j (.bool true)) 4)) w.heap.size n :=
 ⟨_, heapNew w _, by simp, fun i hi => by
   by_cases e : i = j
   · subst e; exact ⟨true, by simp [hi]⟩
   · exact ⟨false, by rw [Array.getElem?_setIfInBounds_ne (Ne.symm e)]; simp [hi]⟩⟩
theorem mk120 (n : Nat) (h1 : 1 <= n) (h5 : n <= 12) : ∀ (w : World), (Instr.makeSlice 102 (.int .i64 (n : Int)) (.int .i64 (n : Int))).run Tryz.prog w = .ok (.slice (some ⟨w.heap.size, 0, none⟩) n n) (w.alloc (.cells (Array.replicate n (.bool false)) 4)) := by
 have : n = 1 ∨ n = 2 ∨ n = 3 ∨ n = 4 ∨ n = 5 ∨ n = 6 ∨ n = 7 ∨ n = 8 ∨ n = 9 ∨ n = 10 ∨ n = 11 ∨ n = 12 := by omega
 rcases this with rfl | rfl | rfl | rfl | rfl | rfl | rfl | rfl | rfl | rfl | rfl | rfl
 all_goals (intro w; kernel_rfl)
def RetCk (M : Nat -> Nat) (U : Nat -> Nat -> Nat) (st : Nat) (e : Ending) : Prop := ∃ n m : Int, e = .returned (.tuple #[.int .i64 n, .int .i64 m]) /\ (m = 0 -> ∃ j, j <= M st /\ U st j ≠ 0)
theorem check_any (S : Sample) (hS : SOk S) (hNice : SNice S) (U : Nat -> Nat -> Nat) (hty : tyAll S = true) (w : World) (M : Nat -> Nat) (hM : ∀ i, 1 <= M i /\ M i <= 5) (rs : List Rl) (hsub : rs.Sublist S.rules) (hneedU : Need U rs) (ca sa ra : Option Addr) (cc sc rc : Nat) (hC : ColsAt w ca S.cols) (hY : SymsAt w sa S.syms M) (hR : RulesAt w ra rs) (bv : Value) (hB : BaseOk w bv) :
   Calls Tryz.prog 16 #[.agg #[.string S.nm, .int .i64 S.ver, .slice ca S.cols.length cc, .slice sa S.syms.length sc, .slice ra rs.length rc, .int .i64 S.st], bv] w fun e w' => RetCk M U S.st e /\ Below w.heap.size w w' := by
 have HB1 : ∀ o1, Below w.heap.size w (w.alloc o1) := fun o1 => (Below.refl _ _).alloc (Nat.le_refl _) _
 have HR1 := Lib.hid (fun W (hb : Below w.heap.size w W) => right_yes S hS hNice W M hM rs hsub ca sa ra cc sc rc (hC.below hb) (hY.below hb) (hR.below hb))
 have HCT := Lib.hid (fun W (hb : Below w.heap.size w W) => counts_read S hS hNice U W M hM rs hsub hneedU ca sa ra cc sc rc (hC.below hb) (hY.below hb) (hR.below hb))
 have HFT := Lib.hid (fun W (hb : Below w.heap.size w W) r (hr : r ∈ S.rules) aa ac (hA : ArgsAt W aa r.args) => fits_any S hS hty W M rs.length ca sa ra cc sc rc (hC.below hb) (hY.below hb) r hr aa ac hA bv (hB.below hb))
 have hneed := Lib.hid hneedU
 have hrule := Lib.hid (fun r hr => hS.rule r (hsub.subset hr))
 have hin := Lib.hid (fun (r : Rl) (hr : r ∈ rs) => hsub.subset hr)
 have hsn0 := hS.syms0
 have hsn := hS.syms
 have hst := hS.st
 have hrn : rs.length <= 40 := Nat.le_trans hsub.length_le hS.rules
 clear hB hneedU hNice
 go_enter Tryz.func16, Tryz.ntmps16
 go_wp2_with (go_at_call 38; refine (HR1.out _ (HB1 _)).mono ?_; rintro e w2 ⟨rfl, hb2⟩)
 have HX : Box w2 w.heap.size #[.string S.nm, .int .i64 S.ver, .slice ca S.cols.length cc, .slice sa S.syms.length sc, .slice ra rs.length rc, .int .i64 S.st] :=
   Box.below (B := w.heap.size + 1) ⟨by simp, heapNew w _⟩ (by omega) (hb2.mono (by simp))
 have HB : Below w.heap.size w w2 := (HB1 _).trans (hb2.mono (by simp))
 clear hb2 HR1 HB1
 go_loopw [7] (fun i wr => ∃ k : Nat, k <= rs.length /\ i = .int .i64 k /\ Below w2.heap.size w2 wr) (fun i _ => rs.length - (RowKit.intOf i).toNat)
 case atStart => exact ⟨0, Nat.zero_le _, rfl, Below.refl _ _⟩
 case round =>
   obtain ⟨k, hk, rfl, hbr⟩ := hrel
   have HXr := HX.below HX.1 hbr
   have HBr : Below w.heap.size w wr := HB.trans (hbr.mono HB.size)
   have e0 := cellOf (i := 0) HXr.2 rfl
   have e1 := cellOf (i := 1) HXr.2 rfl
   have e2 := cellOf (i := 2) HXr.2 rfl
   have e3 := cellOf (i := 3) HXr.2 rfl
   have e4 := cellOf (i := 4) HXr.2 rfl
   have e5 := cellOf (i := 5) HXr.2 rfl
   have hlt1 := HXr.1
   by_cases hlt : k < rs.length
   · obtain ⟨rb, ro, rfl, hrb, hcc⟩ := hR.below HBr
     obtain ⟨aa, ac, hrl⟩ := hcc k hlt
     have f0 := hrl.c0
     have f1 := hrl.c1
     have f2 := hrl.c2
     have f3 := hrl.c3
     have HAR := Lib.hid hrl.args
     have j1 : (0 : Int) <= (k : Int) := by omega
     have j2 : (k : Int) < (rs.length : Int) := by omega
     have j3 : (k : Int) <= 1000 := by omega
     clear hrl hcc
     go_wp2
     go_still_tail 7, (by kernel_rfl)
     go_wp2_with (go_at_call 39; refine (HFT.out _ HBr.drew rs[k] (hin.out _ (List.getElem_mem hlt)) aa ac (HAR.out.below ((Below.refl _ _).drew))).mono ?_; rintro e w4 ⟨⟨q4, rfl⟩, hb4⟩)
     all_goals first
       | (go_roundw
          case rel => first | exact ⟨k + 1, by omega, by go_num, (hbr.drew).trans (hb4.mono hbr.size)⟩ | ((repeat apply Exists.intro); refine ⟨?_, rfl⟩; exact ⟨k + 1, by omega, by go_num, (hbr.drew).trans (hb4.mono hbr.size)⟩)
          case measure => simp [RowKit.intOf]; omega)
       | (go_ret2; exact ⟨⟨_, _, rfl, fun h => by exfalso; have hx : (q4 != 0) = true := (by assumption); rw [h] at hx; simp at hx⟩, HBr.drew.trans (hb4.mono HBr.size)⟩)
   · obtain rfl : k = rs.length := by omega
     clear HFT
     go_upto_block 2 with (go_at_call 40; refine (HCT.out _ HBr).mono ?_; rintro e w5 ⟨⟨va, vc, rfl, hco⟩, hb5⟩)
     have HX5 := HXr.below HXr.1 hb5
     have HB5 : Below w.heap.size w w5 := HBr.trans (hb5.mono HBr.size)
     clear e0 e1 e2 e3 e4 e5 HXr HBr hb5 hbr HX HB hlt1 HCT
     go_cut [] (fun wx => Below w5.heap.size w5 wx /\ Hid (∃ j, j <= M S.st /\ U S.st j ≠ 0))
     case first =>
       have hcn := hco.1
       go_wp2_with fail
       go_loopw [10] (fun i wr => ∃ k : Nat, k <= S.syms.length /\ i = .int .i64 k /\ Below w5.heap.size w5 wr /\ Hid (∀ s, s < k -> ∃ j, j <= M s /\ U s j ≠ 0)) (fun i _ => S.syms.length - (RowKit.intOf i).toNat)
       case atStart => exact ⟨0, Nat.zero_le _, rfl, Below.refl _ _, Lib.hid fun s hs => by omega⟩
       case round =>
         obtain ⟨wo, rfl⟩ : ∃ wo : World, wo = wr := ⟨_, rfl⟩
         obtain ⟨k, hk, rfl, hbr, hE⟩ := hrel
         by_cases hlt : k < S.syms.length
         · have j1 : (0 : Int) <= (k : Int) := by omega
           have j2 : (k : Int) < (S.syms.length : Int) := by omega
           have j3 : (k : Int) <= 1000 := by omega
           have hm5 := (hM k).2
           obtain ⟨cg, bs, rfl, hcg, hcs⟩ := (hco.below hbr).2 (by omega)
           obtain ⟨hsl, hNk⟩ := hcs k hlt
           have hbl := hNk.1
           go_wp2
           go_loopw [11, 12] (fun t i wq => ∃ (j v : Nat) (s : ByteArray), j <= M k + 1 /\ i = .int .i64 j /\ t = .string s /\ IsN s v /\ v <= j * 2147483648 /\ Below wo.heap.size wo wq /\ Hid (v ≠ 0 -> ∃ j', j' < j /\ U k j' ≠ 0)) (fun _ i _ => M k + 1 - (RowKit.intOf i).toNat)
           case atStart => exact ⟨0, 0, ⟨#[]⟩, by omega, rfl, rfl, ⟨rfl, by decide, fun _ => rfl⟩, by omega, Below.refl _ _, Lib.hid fun h => absurd rfl h⟩
           case round =>
             obtain ⟨j, v, s, hj, rfl, rfl, hs, hv, hbq, hU⟩ := hrel
             have hslq : wr.cell? ⟨cg, k, none⟩ = some (.slice (some ⟨bs k, 0, none⟩) (M k + 1) (M k + 1)) := by rw [hbq.cell hcg]; exact hsl
             have HBq : Below w5.heap.size w5 wr := hbr.trans (hbq.mono hbr.size)
             by_cases hlj : j < M k + 1
             · obtain ⟨sc', vc', cc', nc', lc'⟩ := (hNk.below hbl hbq).cell hlj
               have j4 : (0 : Int) <= (j : Int) := by omega
               have j5 : (j : Int) < (M k : Int) + 1 := by omega
               have j6 : (j : Int) <= 1000 := by omega
               have b1 : vc' < 2147483648 := Nat.lt_of_le_of_lt lc' (hneed.out.lt _ _)
               have hU2 : Hid (v + vc' ≠ 0 -> ∃ j', j' < j + 1 /\ U k j' ≠ 0) := Lib.hid fun h => by
                 by_cases h0 : v = 0
                 · exact ⟨j, by omega, by omega⟩
                 · obtain ⟨j', h1, h2⟩ := hU.out h0; exact ⟨j', by omega, h2⟩
               have HA := Lib.hid (fun W => add_small s sc' v vc' W hs nc' (by omega) (by omega))
               clear hsl
               go_wp2_with (go_at_call 41; refine (HA.out _).mono ?_; rintro e w7 ⟨⟨t2, rfl, hv2, hn2⟩, hb7⟩)
               go_roundw
               case rel => first | exact ⟨j + 1, v + vc', t2, by omega, by go_num, rfl, ⟨hv2, hn2⟩, by omega, hbq.trans (hb7.mono hbq.size), hU2⟩ | ((repeat apply Exists.intro); refine ⟨?_, rfl⟩; exact ⟨j + 1, v + vc', t2, by omega, by go_num, rfl, ⟨hv2, hn2⟩, by omega, hbq.trans (hb7.mono hbq.size), hU2⟩)
               case measure => simp [RowKit.intOf]; omega
             · have j5 : ¬ (j : Int) < (M k : Int) + 1 := by omega
               clear hsl
               by_cases hs0 : s.size = 0
               · have z0 : ((s.size : Int) == 0) = true := by simp [hs0]
                 clear hs0
                 go_wp2
                 go_ret2
                 exact ⟨⟨_, _, rfl, fun h => by simp at h⟩, HB5.trans (HBq.mono HB5.size)⟩
               · have z0 : ((s.size : Int) == 0) = false := by rw [beq_eq_false_iff_ne]; omega
                 have hE2 : Hid (∀ s', s' < k + 1 -> ∃ j, j <= M s' /\ U s' j ≠ 0) := Lib.hid fun s' hs' => by
                   by_cases e : s' = k
                   · subst e
                     obtain ⟨j', h1, h2⟩ := hU.out (fun e => hs0 (hs.2.2 e))
                     exact ⟨j', by omega, h2⟩
                   · exact hE.out s' (by omega)
                 clear hs0
                 go_wp2
                 go_roundw
                 case rel => first | exact ⟨k + 1, by omega, by go_num, HBq, hE2⟩ | ((repeat apply Exists.intro); refine ⟨?_, rfl⟩; exact ⟨k + 1, by omega, by go_num, HBq, hE2⟩)
                 case measure => simp [RowKit.intOf]; omega
         · go_wp2_with fail
           go_meet
           exact ⟨hbr, Lib.hid (hE.out S.st (by omega))⟩
     case rest =>
       obtain ⟨hcut, hE⟩ := hcut
       have HXc := HX5.below HX5.1 hcut
       have HBc : Below w.heap.size w wc := HB5.trans (hcut.mono HB5.size)
       clear HX5 HB5 hcut hco hneed
       have hmk := mk120 S.syms.length hsn0 hsn
       have e3 := cellOf (i := 3) HXc.2 rfl
       have e5 := cellOf (i := 5) HXc.2 rfl
       have hl0 := HXc.1
       have hB0 := Bools.new wc S.syms.length
       obtain ⟨x0, c0⟩ := hB0.cell hst
       have z0 := hB0.free S.st
       have j0 : (S.st : Int) < (S.syms.length : Int) := by omega
       have HB0 := Lib.hid (Bools.new1 wc S.syms.length S.st)
       have HBB := Lib.hid ((Below.refl wc.heap.size wc).alloc (Nat.le_refl _) (.cells ((Array.replicate S.syms.length (.bool false)).setIfInBounds S.st (.bool true)) 4))
       clear hB0
       go_wp2
       clear hmk c0 z0 e3 e5
       generalize (wc.alloc (.cells ((Array.replicate S.syms.length (.bool false)).setIfInBounds S.st (.bool true)) 4)) = wd at HB0 HBB ⊢
       go_loopw [14] (fun i wr => ∃ k : Nat, k <= S.syms.length /\ i = .int .i64 k /\ Bools wr wc.heap.size S.syms.length /\ Below wc.heap.size wc wr) (fun i _ => S.syms.length - (RowKit.intOf i).toNat)
       case atStart => exact ⟨0, Nat.zero_le _, rfl, HB0.out, HBB.out⟩
       case round =>
         clear HB0 HBB
         obtain ⟨wo, rfl⟩ : ∃ wo : World, wo = wr := ⟨_, rfl⟩
         obtain ⟨z, hz, rfl, hbo, hbr⟩ := hrel
         have HXr := HXc.below hl0 hbr
         have e3 := cellOf (i := 3) HXr.2 rfl
         by_cases hltz : z < S.syms.length
         · have j1 : (z : Int) < (S.syms.length : Int) := by omega
           have j2 : (z : Int) <= 1000 := by omega
           go_wp2
           go_loopw [15] (fun i wk => ∃ k : Nat, k <= rs.length /\ i = .int .i64 k /\ Bools wk wc.heap.size S.syms.length /\ Below wc.heap.size wc wk) (fun i _ => rs.length - (RowKit.intOf i).toNat)
           case atStart => exact ⟨0, Nat.zero_le _, rfl, hbo, hbr⟩
           case round =>
             clear hbo hbr HXr e3
             obtain ⟨wk, rfl⟩ : ∃ wk : World, wk = wr := ⟨_, rfl⟩
             obtain ⟨k, hk', rfl, hbo, hbr⟩ := hrel
             have HXr := HXc.below hl0 hbr
             have e4 := cellOf (i := 4) HXr.2 rfl
             by_cases hltk : k < rs.length
             · have j3 : (k : Int) < (rs.length : Int) := by omega
               have j4 : (k : Int) <= 1000 := by omega
               have j5 : (0 : Int) <= (k : Int) := by omega
               obtain ⟨hh, hal, harg, _, _⟩ := hrule.out _ (List.getElem_mem hltk)
               have j6 : (rs[k].h : Int) < (S.syms.length : Int) := by omega
               have j7 : (0 : Int) <= (rs[k].h : Int) := by omega
               go_wp2
               go_loopw [16] (fun i wq => ∃ j : Nat, j <= rs[k].args.length /\ i = .int .i64 j /\ Bools wq wc.heap.size S.syms.length /\ Below wc.heap.size wc wq) (fun i _ => rs[k].args.length - (RowKit.intOf i).toNat)
               case atStart => exact ⟨0, Nat.zero_le _, rfl, hbo, hbr⟩
               case round =>
                 clear hbo hbr HXr e4
                 obtain ⟨j, hj, rfl, hbo, hbr⟩ := hrel
                 have HXr := HXc.below hl0 hbr
                 have e4 := cellOf (i := 4) HXr.2 rfl
                 have HBr : Below w.heap.size w wr := HBc.trans (hbr.mono (by have := HBc.size; omega))
                 obtain ⟨rb, ro, rfl, hrb, hcc⟩ := hR.below HBr
                 obtain ⟨aa, ac, hrl⟩ := hcc k hltk
                 have f0 := hrl.c0
                 have f3 := hrl.c3
                 by_cases hlj : j < rs[k].args.length
                 · obtain ⟨x, cx⟩ := hbo.cell hh
                   have j8 : (j : Int) < (rs[k].args.length : Int) := by omega
                   have j9 : (0 : Int) <= (j : Int) := by omega
                   have j10 : (j : Int) <= 1000 := by omega
                   cases x
                   · clear hcc hrl
                     go_wp2
                     go_roundw
                     case rel => first | exact ⟨k + 1, by omega, by go_num, hbo, hbr⟩ | ((repeat apply Exists.intro); refine ⟨?_, rfl⟩; exact ⟨k + 1, by omega, by go_num, hbo, hbr⟩)
                     case measure => simp [RowKit.intOf]; omega
                   · obtain ⟨ab, ao, rfl, hab, hax⟩ := hrl.args (by omega)
                     have hcx := hax j hlj
                     have hasn := harg _ (List.getElem_mem hlj)
                     have j11 : (rs[k].args[j] : Int) < (S.syms.length : Int) := by omega
                     have j12 : (0 : Int) <= (rs[k].args[j] : Int) := by omega
                     obtain ⟨y, cy⟩ := hbo.cell hasn
                     have fy := hbo.free rs[k].args[j]
                     have HN := Lib.hid (hbo.set rs[k].args[j] true)
                     have HNB := Lib.hid (hbr.setCell (p := ⟨wc.heap.size, rs[k].args[j], none⟩) (Nat.le_refl _) (.bool true))
                     clear hcc hrl hax hbo hbr
                     go_wp2
                     go_roundw
                     case rel => first | exact ⟨j + 1, by omega, by go_num, HN.out, HNB.out⟩ | ((repeat apply Exists.intro); refine ⟨?_, rfl⟩; exact ⟨j + 1, by omega, by go_num, HN.out, HNB.out⟩)
                     case measure => simp [RowKit.intOf]; omega
                 · have j8 : ¬ (j : Int) < (rs[k].args.length : Int) := by omega
                   clear hcc hrl
                   go_wp2
                   go_roundw
                   case rel => first | exact ⟨k + 1, by omega, by go_num, hbo, hbr⟩ | ((repeat apply Exists.intro); refine ⟨?_, rfl⟩; exact ⟨k + 1, by omega, by go_num, hbo, hbr⟩)
                   case measure => simp [RowKit.intOf]; omega
             · go_wp2
               go_roundw
               case rel => first | exact ⟨z + 1, by omega, by go_num, hbo, hbr⟩ | ((repeat apply Exists.intro); refine ⟨?_, rfl⟩; exact ⟨z + 1, by omega, by go_num, hbo, hbr⟩)
               case measure => simp [RowKit.intOf]; omega
         · have HBo : Below w.heap.size w wo := HBc.trans (hbr.mono (by have := HBc.size; omega))
           go_wp2
           go_loopw [17] (fun i wq => ∃ j : Nat, j <= S.syms.length /\ i = .int .i64 j /\ wq = wo) (fun i _ => S.syms.length - (RowKit.intOf i).toNat)
           case atStart => exact ⟨0, Nat.zero_le _, rfl, rfl⟩
           case round =>
             obtain ⟨j, hj, rfl, rfl⟩ := hrel
             by_cases hlj : j < S.syms.length
             · obtain ⟨x, cx⟩ := hbo.cell hlj
               have j8 : (j : Int) < (S.syms.length : Int) := by omega
               have j9 : (0 : Int) <= (j : Int) := by omega
               have j10 : (j : Int) <= 1000 := by omega
               cases x
               · go_wp2
                 go_ret2
                 exact ⟨⟨_, _, rfl, fun _ => hE.out⟩, HBo⟩
               · go_wp2
                 go_roundw
                 case rel => first | exact ⟨j + 1, by omega, by go_num, trivial⟩ | exact ⟨j + 1, by omega, by go_num, rfl⟩ | ((repeat apply Exists.intro); refine ⟨?_, rfl⟩; exact ⟨j + 1, by omega, by go_num, rfl⟩)
                 case measure => simp [RowKit.intOf]; omega
             · go_wp2
               go_ret2
               exact ⟨⟨_, _, rfl, fun _ => hE.out⟩, HBo⟩
end Go.EvPart.N
