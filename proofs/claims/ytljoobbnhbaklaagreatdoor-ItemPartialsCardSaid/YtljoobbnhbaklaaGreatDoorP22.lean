/- ItemPartials, one part of the proof: PropS, PartE7, PartG10, PartI0, PartI1, PartI2. -/
import Derived.Test.YtljoobbnhbaklaaGreatDoorP21
import Derived.Test.YtljoobbnhbaklaaGreatDoorP20
import Derived.Lib.AppendIntMem
import Derived.Test.YtljoobbnhbaklaaGreatDoorP13
import Derived.Deep.AppendLies
import Derived.Test.YtljoobbnhbaklaaGreatDoorP11
import Derived.Deep.RegionHeld3
import Derived.Test.YtljoobbnhbaklaaGreatDoorP14
set_option linter.all false
set_option maxRecDepth 100000
set_option maxHeartbeats 16000000
namespace Go.EvProp
open Go Go.Ev Go.Proofs
def extM : Ext1 := fun f => bif Nat.beq f 12 then some (memosF [memo0]) else bif Nat.beq f 7 then some (memosF [memo1, memo2, memo4, memo5, memo7, memo8]) else bif Nat.beq f 10 then some (memosF [memo3, memo6]) else bif Nat.beq f 11 then some (memosF [memo9]) else extP f
noncomputable def isTrue (r : Option (AV × H)) : Bool := match r with | some (.bool true, h) => hasAll h [(0, tensB), (1, powB)] | _ => false
theorem sanity_run : isTrue ((envK Tryz.prog extM tabT.find 3000).call 4 [] h0) = true := by kernel_rfl
end Go.EvProp
namespace Go.EvProp
open Go Go.Ev Go.Proofs Go.RowKit
def RetTrue (e : Ending) : Prop := e = .returned (.bool true)
def TensAt (w : World) : Prop := ∃ fz, w.heap[0]? = some (.cells #[.int .i64 1, .int .i64 10, .int .i64 100, .int .i64 1000, .int .i64 10000, .int .i64 100000, .int .i64 1000000] 265 fz)
theorem TensAt.below {w w' : World} (h : TensAt w) (hb : Below w.heap.size w w') : TensAt w' := by
 obtain ⟨fz, h⟩ := h
 exact ⟨fz, (hb.block 0 (Array.getElem?_eq_some_iff.1 h).1).trans h⟩
def PowAt (w : World) : Prop := ∃ fz, w.heap[1]? = some (.cells (Lib.pow10Tab.map fun z => Value.int .u64 z).toArray 306 fz)
theorem PowAt.below {w w' : World} (h : PowAt w) (hb : Below w.heap.size w w') : PowAt w' := by
 obtain ⟨fz, h⟩ := h
 exact ⟨fz, (hb.block 1 (Array.getElem?_eq_some_iff.1 h).1).trans h⟩
theorem contOf_eq {w : World} {b : Nat} {arr : Array Value} {t : TypeId} {fz : Nat × Nat} (h : w.heap[b]? = some (.cells arr t fz)) : contOf w b = arr := by simp [contOf, h]
theorem ro_of {ρ : Rho} {σ : Sig} {w : World} {b del tot : Nat} {arr : Array Value} {t : TypeId} {fz : Nat × Nat} {vs : List AV} (ht : ρ.tl = contOf w) (hz : ρ.fz = fzOf w) (h : w.heap[b]? = some (.cells arr t fz)) {cs : List Value} (hc : concL ρ σ vs = some cs) (ha : arr = cs.toArray) (hd : del = 0) : ORel ρ σ ⟨b, del, tot⟩ w.heap[b]? (.ro t vs) := by
 subst hd
 refine ⟨cs, hc, ?_, fun i hi => ?_⟩
 · rw [ht, hz]
   have e1 : contOf w b = arr := contOf_eq h
   have e2 : fzOf w b = fz := by simp [fzOf, h]
   show w.heap[b]? = some (.cells (contOf w b) t (fzOf w b))
   rw [e1, e2]; exact h
 · rw [ht]
   show (contOf w b)[0 + i]? = cs[i]?
   rw [contOf_eq h, ha, Nat.zero_add]
   simp
theorem extM_ok {ρ : Rho} (hρ : ρ.loops = loopsOf Tryz.prog) (f : FuncId) (F : List AV -> H -> Option (AV × H)) (h : extM f = some F) : FnOk Tryz.prog ρ f F := by
 have E := envP_ok hρ 3000
 unfold extM at h
 simp only [bif_beq] at h
 split at h
 · rename_i e; subst e; cases h
   refine memos_ok fun q hq => ?_
   simp only [List.mem_cons, List.mem_nil_iff, or_false] at hq
   subst hq
   exact memo_ok (E.call _) memo0_run
 split at h
 · rename_i e; subst e; cases h
   refine memos_ok fun q hq => ?_
   simp only [List.mem_cons, List.mem_nil_iff, or_false] at hq
   rcases hq with rfl | rfl | rfl | rfl | rfl | rfl
   · exact memo_ok (E.call _) memo1_run
   · exact memo_ok (E.call _) memo2_run
   · exact memo_ok (E.call _) memo4_run
   · exact memo_ok (E.call _) memo5_run
   · exact memo_ok (E.call _) memo7_run
   · exact memo_ok (E.call _) memo8_run
 split at h
 · rename_i e; subst e; cases h
   refine memos_ok fun q hq => ?_
   simp only [List.mem_cons, List.mem_nil_iff, or_false] at hq
   rcases hq with rfl | rfl
   · exact memo_ok (E.call _) memo3_run
   · exact memo_ok (E.call _) memo6_run
 split at h
 · rename_i e; subst e; cases h
   refine memos_ok fun q hq => ?_
   simp only [List.mem_cons, List.mem_nil_iff, or_false] at hq
   subst hq
   exact memo_ok (E.call _) memo9_run
 · exact extP_ok f F h
def sig0 : Sig := fun b => if b < 13 then some ⟨b, 0, 0⟩ else none
theorem gok0 : GOk Tryz.prog sig0 := fun k hk => ⟨0, by rw [gsize] at hk; simp [sig0, hk]⟩
def blk0 : Blks := [(0, tensB), (1, powB)]
theorem h0_put : h0 = putL ⟨.e, 13⟩ blk0 := rfl
theorem hrel0 {ρ : Rho} {w : World} (hT : TensAt w) (hP : PowAt w) (ht : ρ.tl = contOf w) (hz : ρ.fz = fzOf w) : HRel ρ sig0 (putL ⟨.e, 13⟩ blk0) w := by
 have hsm : small blk0 = true := rfl
 obtain ⟨f0, t0⟩ := hT
 obtain ⟨f1, t1⟩ := hP
 have mem : ∀ b x, (putL ⟨.e, 13⟩ blk0).get b = some x -> (b = 0 /\ x = tensB) ∨ (b = 1 /\ x = powB) := fun b x hb => by
   have := putE_get hsm hb
   simpa [blk0] using this
 have sg : ∀ b p, sig0 b = some p -> (b = 0 ∨ b = 1) -> (b = 0 /\ p.blk = 0) ∨ (b = 1 /\ p.blk = 1) := fun b p hp hb => by
   rcases hb with rfl | rfl <;> simp [sig0] at hp <;> subst hp <;> simp
 refine ⟨fun b x hb => ?_, fun b b' x x' p p' hb hb' hp hp' hne' => ?_, fun b hb => ?_⟩
 · rcases mem b x hb with ⟨rfl, rfl⟩ | ⟨rfl, rfl⟩
   · exact ⟨⟨0, 0, 0⟩, rfl, ro_of ht hz t0 (cs := [.int .i64 1, .int .i64 10, .int .i64 100, .int .i64 1000, .int .i64 10000, .int .i64 100000, .int .i64 1000000]) rfl rfl rfl⟩
   · exact ⟨⟨1, 0, 0⟩, rfl, ro_of ht hz t1 (cs := Lib.pow10Tab.map fun z => Value.int .u64 z) rfl rfl rfl⟩
 · have m1 : b = 0 ∨ b = 1 := by rcases mem b x hb with ⟨h, _⟩ | ⟨h, _⟩ <;> omega
   have m2 : b' = 0 ∨ b' = 1 := by rcases mem b' x' hb' with ⟨h, _⟩ | ⟨h, _⟩ <;> omega
   have s1 := sg b p hp m1
   have s2 := sg b' p' hp' m2
   omega
 · have hb : 13 <= b := by rw [putL_nx] at hb; exact hb
   unfold sig0
   rw [if_neg (by omega)]
theorem sanity_any (w : World) (hT : TensAt w) (hP : PowAt w) : Calls Tryz.prog 4 #[] w fun e w' => RetTrue e /\ Below w.heap.size w w' := by
 obtain ⟨ρ, hρ, hz, ht⟩ : ∃ ρ : Rho, ρ.loops = loopsOf Tryz.prog /\ ρ.fz = fzOf w /\ ρ.tl = contOf w := ⟨⟨fun _ => undef, loopsOf Tryz.prog, fzOf w, contOf w⟩, rfl, rfl, rfl⟩
 have hrun := sanity_run
 rw [h0_put] at hrun
 unfold isTrue at hrun
 split at hrun
 · rename_i h' hv
   refine (ro_calls follows hρ (BT.find_ok tabT_ok) (extM_ok hρ) (f := 4) rfl gok0 (args := []) (cs := []) rfl rfl rfl (hrel0 hT hP ht hz) hv hrun).mono ?_
   rintro e w' ⟨c, σ', rfl, L⟩
   have : c = .bool true := Option.some.inj (L.v.symm.trans rfl)
   subst this
   exact ⟨rfl, L.b⟩
 · cases hrun
end Go.EvProp
namespace Go.EvPart
open Go Go.Proofs Go.RowKit Go.EvNil
theorem run_cat1 (pa : ByteArray) (h : pa.size <= 60) : ∀ w, (Op.stringOp .add ⟨#[39]⟩ pa).run Tryz.prog w = .ok (.string (⟨#[39]⟩ ++ pa)) w := fun w => by
 have z1 : ¬ (9223372036854775807 : Int) < 1 + (pa.size : Int) := by omega
 unfold Op.stringOp
 go_simp
theorem run_cat2 (pa : ByteArray) (h : pa.size <= 60) : ∀ w, (Op.stringOp .add (⟨#[39]⟩ ++ pa) ⟨#[39]⟩).run Tryz.prog w = .ok (.string (⟨#[39]⟩ ++ pa ++ ⟨#[39]⟩)) w := fun w => by
 have z1 : ¬ (9223372036854775807 : Int) < 1 + (pa.size : Int) + 1 := by omega
 unfold Op.stringOp
 go_simp
theorem print_ne (S : Sample) (hS : SOk S) (hN : SNice S) (w : World) (M : Nat -> Nat) (hM : ∀ i, 1 <= M i /\ M i <= 5) (rs : List Rl) (hsub : rs.Sublist S.rules) (ca sa ra : Option Addr) (cc sc rc : Nat) (hC : ColsAt w ca S.cols) (hY : SymsAt w sa S.syms M) (hR : RulesAt w ra rs) (k1 : S.cols.length <= cc) (k2 : S.syms.length <= sc) (k3 : rs.length <= rc) :
   Calls Tryz.prog 27 #[.agg #[.string S.nm, .int .i64 S.ver, .slice ca S.cols.length cc, .slice sa S.syms.length sc, .slice ra rs.length rc, .int .i64 S.st]] w fun e w' => RetNe 1 e /\ Below w.heap.size w w' := by
 have HB1 : ∀ o1, Below w.heap.size w (w.alloc o1) := fun o1 => (Below.refl _ _).alloc (Nat.le_refl _) _
 have HRT := Lib.hid (fun W (hW : Below w.heap.size w W) => right_yes S hS hN W M hM rs hsub ca sa ra cc sc rc (hC.below hW) (hY.below hW) (hR.below hW) k1 k2 k3)
 have hver := hN.ver
 have hnm := hN.nm.hi
 have N2 := Lib.hid hN.cols
 have N4 := Lib.hid hN.syms
 have N6 := Lib.hid (fun r (hr : r ∈ rs) => hN.rules r (hsub.subset hr))
 have hcn := hS.cols
 have hsn := hS.syms
 have hrn : rs.length <= 40 := Nat.le_trans hsub.length_le hS.rules
 have hst := hS.st
 have HC := Lib.hid (fun W (hW : Below w.heap.size w W) => hC.below hW)
 have HY := Lib.hid (fun W (hW : Below w.heap.size w W) => hY.below hW)
 obtain ⟨rb, ro, era, hrb, hrc⟩ := hR
 have ERA := Lib.hid era
 have HRC := Lib.hid hrc
 have HM := Lib.hid hM
 clear hC hY hrc era hM hN hS hsub
 go_enter Tryz.func27, Tryz.ntmps27
 go_upto_region 5 with (go_at_call 55; refine (HRT.out _ (HB1 _)).mono ?_; rintro e w1 ⟨rfl, hb1⟩)
 have hg1 := (GB.new w #[.string S.nm, .int .i64 S.ver, .slice ca S.cols.length cc, .slice sa S.syms.length sc, .slice ra rs.length rc, .int .i64 S.st]).below hb1
 have hP : PrS w #[.string S.nm, .int .i64 S.ver, .slice ca S.cols.length cc, .slice sa S.syms.length sc, .slice ra rs.length rc, .int .i64 S.st] w1.heap.size 0 0 (w1.alloc (.cells #[.pointer none, .slice none 0 0] 123)) := ⟨hg1.below ((Below.refl _ _).alloc (Nat.le_refl _) _), Bld.new w1, heap_lt' hg1.g⟩
 clear hg1 hb1 HRT HB1
 generalize (w1.alloc (.cells #[.pointer none, .slice none 0 0] 123)) = w2 at *
 generalize w1.heap.size = b at *
 have g0 := cellOf (i := 0) hP.g.g rfl
 have g1 := cellOf (i := 1) hP.g.g rfl
 have lg := heap_lt' hP.g.g
 have HI := Lib.hid (fun W => itoa_any S.ver W hver)
 have HL := Lib.hid (fun (s : ByteArray) (hs : s.size <= 3) => line3 w _ b 0 0 ⟨#[103, 114, 97, 109, 109, 97, 114]⟩ S.nm s w2.drew (hP.below ((Below.refl _ _).drew)) (by omega) (by decide) (by omega) (by omega))
 go_region_held3 (fun W => W.cell? ⟨w.heap.size, 0, none⟩ = some (.string S.nm) /\ W.cell? ⟨w.heap.size, 1, none⟩ = some (.int .i64 S.ver)) (first | exact ⟨g0, g1⟩ | exact ⟨y0, y1⟩ | go_keep) (first | (go_at_call 34; (with_reducible refine (HI.out _).mono ?_); rintro e w' ⟨⟨s, rfl, hs⟩, rfl⟩) | (go_at_call 56; refine (HL.out s hs).mono ?_; rintro e w3 ⟨rfl, hP3, _⟩; have y0 := cellOf (i := 0) hP3.g.g rfl; have y1 := cellOf (i := 1) hP3.g.g rfl))
 have g2 := cellOf (i := 2) hP3.g.g rfl
 have hP3' := hP3.weak (m' := 1) (n' := 2100 * (1 + 0)) (by omega) (by omega)
 have lg3 := heap_lt' hP3.g.g
 clear hP g0 g1 y0 y1 HI HL hP3
 go_wp2
 go_loopw [6, 29] (fun _ i wr => ∃ j : Nat, j <= S.cols.length /\ i = .int .i64 j /\ PrS w #[.string S.nm, .int .i64 S.ver, .slice ca S.cols.length cc, .slice sa S.syms.length sc, .slice ra rs.length rc, .int .i64 S.st] b 1 (2100 * (1 + j)) wr) (fun _ i _ => S.cols.length - (intOf i).toNat)
 case atStart => exact ⟨0, Nat.zero_le _, rfl, hP3'⟩
 case round =>
   clear hP3' g2 lg3 lg
   obtain ⟨j, hj, rfl, hP⟩ := hrel
   have lg := heap_lt' hP.g.g
   by_cases hlt : j < S.cols.length
   · obtain ⟨cb, o, rfl, hbl, hc⟩ := ColsAt.cell (HC.out _ hP.g.b)
     obtain ⟨c0, c1⟩ := hc j hlt
     have i2 : (0 : Int) <= (j : Int) := by omega
     have i3 : (j : Int) < (S.cols.length : Int) := by omega
     clear hc
     go_upto_region 9 with fail
     have hbx := hP.bl.lt
     have HP2 := hP.below ((Below.refl wr.heap.size wr).alloc (Nat.le_refl _) (.cells #[.string S.cols[j].1, .int .i64 S.cols[j].2] 131))
     have HX := BoxIs.new wr 131 #[.string S.cols[j].1, .int .i64 S.cols[j].2]
     clear c0 c1
     generalize wr.alloc (.cells #[.string S.cols[j].1, .int .i64 S.cols[j].2] 131) = w4 at *
     generalize wr.heap.size = xb at *
     have x0 := cellOf (i := 0) HX rfl
     have x1 := cellOf (i := 1) HX rfl
     have l3 := heap_lt' HX
     have hxb : some xb ≠ some b := by simpa using Ne.symm (Nat.ne_of_lt hbx)
     obtain ⟨m1, m2, m3⟩ := N2.out _ (List.getElem_mem hlt)
     have mz := m1.hi
     clear m1
     have HL := Lib.hid (fun (s : ByteArray) (hs : s.size <= 6) => line3 w _ b 1 (2100 * (1 + j)) ⟨#[99, 111, 108, 117, 109, 110]⟩ S.cols[j].1 s w4.drew (HP2.below ((Below.refl _ _).drew)) (by omega) (by decide) (by omega) (by omega))
     go_region_held3 (fun W => W.cell? ⟨xb, 0, none⟩ = some (.string S.cols[j].1) /\ W.cell? ⟨xb, 1, none⟩ = some (.int .i64 S.cols[j].2)) (first | exact ⟨x0, x1⟩ | exact ⟨y0, y1⟩ | go_keep) (first | (go_at_call 59; (with_reducible refine (kindName_yes _ _ m2 m3).mono ?_); rintro e w' ⟨⟨kn, rfl, kn1, kn2⟩, rfl⟩) | (go_at_call 56; refine (HL.out kn kn2).mono ?_; rintro e w5 ⟨rfl, hP5, hk5⟩; have HX5 := BoxIs.kept HX hk5 hxb (by decide); have y0 := cellOf (i := 0) HX5 rfl; have y1 := cellOf (i := 1) HX5 rfl))
     have hP6 := hP5.weak (m' := 1) (n' := 2100 * (1 + (j + 1))) (by omega) (by omega)
     go_wp2
     go_roundw
     case rel => first | exact ⟨j + 1, by omega, by go_num, hP6⟩ | ((repeat apply Exists.intro); refine ⟨?_, rfl⟩; exact ⟨j + 1, by omega, by go_num, hP6⟩)
     case measure => simp [intOf]; omega
   · have i3 : ¬ (j : Int) < (S.cols.length : Int) := by omega
     have g3 := cellOf (i := 3) hP.g.g rfl
     have hP' := hP.weak (m' := 1) (n' := 2100 * (10 + 0)) (by omega) (by omega)
     clear hP
     go_wp2
     go_loopw [8, 45] (fun _ i wr => ∃ j : Nat, j <= S.syms.length /\ i = .int .i64 j /\ PrS w #[.string S.nm, .int .i64 S.ver, .slice ca S.cols.length cc, .slice sa S.syms.length sc, .slice ra rs.length rc, .int .i64 S.st] b 1 (2100 * (10 + j)) wr) (fun _ i _ => S.syms.length - (intOf i).toNat)
     case atStart => exact ⟨0, Nat.zero_le _, rfl, hP'⟩
     case round =>
       clear hP' g3 lg hlt hj i3
       obtain ⟨j, hj, rfl, hP⟩ := hrel
       have lg := heap_lt' hP.g.g
       by_cases hlt : j < S.syms.length
       · obtain ⟨cb, o, rfl, hbl, hc⟩ := HY.out _ hP.g.b
         obtain ⟨c0, c1, c2⟩ := hc j hlt
         have i2 : (0 : Int) <= (j : Int) := by omega
         have i3 : (j : Int) < (S.syms.length : Int) := by omega
         clear hc
         go_upto_region 14 with fail
         have hbx := hP.bl.lt
         have HP2 := hP.below ((Below.refl wr.heap.size wr).alloc (Nat.le_refl _) (.cells #[.string S.syms[j].1, .int .i64 S.syms[j].2, .int .i64 (M j)] 56))
         have HX := BoxIs.new wr 56 #[.string S.syms[j].1, .int .i64 S.syms[j].2, .int .i64 (M j)]
         clear c0 c1 c2
         generalize wr.alloc (.cells #[.string S.syms[j].1, .int .i64 S.syms[j].2, .int .i64 (M j)] 56) = w4 at *
         generalize wr.heap.size = xb at *
         have x0 := cellOf (i := 0) HX rfl
         have x1 := cellOf (i := 1) HX rfl
         have x2 := cellOf (i := 2) HX rfl
         have l3 := heap_lt' HX
         have hxb : some xb ≠ some b := by simpa using Ne.symm (Nat.ne_of_lt hbx)
         obtain ⟨m1, m2, m3⟩ := N4.out _ (List.getElem_mem hlt)
         have mz := m1.hi
         have mm := (HM.out j).2
         clear m1
         have HI := Lib.hid (fun W => itoa_any (M j) W (by omega))
         have HL := Lib.hid (fun (s t : ByteArray) (hs : s.size <= 6) (ht : t.size <= 3) => line4 w _ b 1 (2100 * (10 + j)) ⟨#[115, 121, 109, 98, 111, 108]⟩ S.syms[j].1 s t w4.drew (HP2.below ((Below.refl _ _).drew)) (by omega) (by decide) (by omega) (by omega) (by omega))
         go_region_held3 (fun W => W.cell? ⟨xb, 0, none⟩ = some (.string S.syms[j].1) /\ W.cell? ⟨xb, 1, none⟩ = some (.int .i64 S.syms[j].2) /\ W.cell? ⟨xb, 2, none⟩ = some (.int .i64 (M j))) (first | exact ⟨x0, x1, x2⟩ | exact ⟨y0, y1, y2⟩ | go_keep) (first | (go_at_call 59; (with_reducible refine (kindName_yes _ _ m2 m3).mono ?_); rintro e w' ⟨⟨kn, rfl, kn1, kn2⟩, rfl⟩) | (go_at_call 34; (with_reducible refine (HI.out _).mono ?_); rintro e w' ⟨⟨s, rfl, hs⟩, rfl⟩) | (go_at_call 56; refine (HL.out kn s kn2 hs).mono ?_; rintro e w5 ⟨rfl, hP5, hk5⟩; have HX5 := BoxIs.kept HX hk5 hxb (by decide); have y0 := cellOf (i := 0) HX5 rfl; have y1 := cellOf (i := 1) HX5 rfl; have y2 := cellOf (i := 2) HX5 rfl))
         all_goals (
           have hP6 := hP5.weak (m' := 1) (n' := 2100 * (10 + (j + 1))) (by omega) (by omega)
           go_wp2
           go_roundw
           case rel => first | exact ⟨j + 1, by omega, by go_num, hP6⟩ | ((repeat apply Exists.intro); refine ⟨?_, rfl⟩; exact ⟨j + 1, by omega, by go_num, hP6⟩)
           case measure => simp [intOf]; omega)
       · have i3 : ¬ (j : Int) < (S.syms.length : Int) := by omega
         have g4 := cellOf (i := 4) hP.g.g rfl
         have hP' := hP.weak (m' := 1) (n' := 2100 * (30 + 0)) (by omega) (by omega)
         clear hP
         go_wp2
         go_loopw [10, 11, 13, 64] (fun _ _ _ i wr => ∃ j : Nat, j <= rs.length /\ i = .int .i64 j /\ PrS w #[.string S.nm, .int .i64 S.ver, .slice ca S.cols.length cc, .slice sa S.syms.length sc, .slice ra rs.length rc, .int .i64 S.st] b 1 (2100 * (30 + j)) wr) (fun _ _ _ i _ => rs.length - (intOf i).toNat)
         case atStart => exact ⟨0, Nat.zero_le _, rfl, hP'⟩
         case round =>
           clear hP' g4 lg hlt hj i3
           obtain ⟨wo, rfl⟩ : ∃ wo : World, wo = wr := ⟨_, rfl⟩
           obtain ⟨j, hj, rfl, hP⟩ := hrel
           have lg := heap_lt' hP.g.g
           by_cases hlt : j < rs.length
           · have era := ERA.out
             subst era
             obtain ⟨aa, ac, hw⟩ := HRC.out j hlt
             have h := hw.below hrb hP.g.b
             have HA := Lib.hid (fun W (hW : Below w.heap.size w W) => hw.args.below hW)
             have hbl : rb < wo.heap.size := Nat.lt_of_lt_of_le hrb hP.g.b.size
             have c0 := h.c0
             have c1 := h.c1
             have c2 := h.c2
             have c3 := h.c3
             have i2 : (0 : Int) <= (j : Int) := by omega
             have i3 : (j : Int) < (rs.length : Int) := by omega
             clear hw h
             go_upto_region 19 with fail
             have hbx := hP.bl.lt
             have HP2 := hP.below ((Below.refl wo.heap.size wo).alloc (Nat.le_refl _) (.cells #[.int .i64 rs[j].h, .string rs[j].op, .string rs[j].pa, .slice aa rs[j].args.length ac] 76))
             have HX := BoxIs.new wo 76 #[.int .i64 rs[j].h, .string rs[j].op, .string rs[j].pa, .slice aa rs[j].args.length ac]
             clear c0 c1 c2 c3
             generalize wo.alloc (.cells #[.int .i64 rs[j].h, .string rs[j].op, .string rs[j].pa, .slice aa rs[j].args.length ac] 76) = w4 at *
             generalize wo.heap.size = xb at *
             have x0 := cellOf (i := 0) HX rfl
             have x1 := cellOf (i := 1) HX rfl
             have x2 := cellOf (i := 2) HX rfl
             have g3 := cellOf (i := 3) HP2.g.g rfl
             have lg2 := heap_lt' HP2.g.g
             have l3 := heap_lt' HX
             obtain ⟨q1, q2, q3, q4, q5⟩ := N6.out _ (List.getElem_mem hlt)
             have Q4 := Lib.hid q4
             have qop := q1.hi
             have qpa := q2.hi
             have HQ := Lib.hid q2.nq
             obtain ⟨sb, so, rfl, hsb, hsc⟩ := HY.out _ HP2.g.b
             have cn := (hsc _ q5).1
             have sz := (N4.out _ (List.getElem_mem q5)).1.hi
             have i5 : (0 : Int) <= (rs[j].h : Int) := by omega
             have i6 : (rs[j].h : Int) < (S.syms.length : Int) := by omega
             have z1 := run_cat1 (rs[j].pa) (by omega)
             have z2 := run_cat2 (rs[j].pa) (by omega)
             clear q1 q2 q4 hsc
             go_region_held3 (fun W => W.cell? ⟨xb, 0, none⟩ = some (.int .i64 rs[j].h) /\ W.cell? ⟨xb, 1, none⟩ = some (.string rs[j].op) /\ W.cell? ⟨xb, 2, none⟩ = some (.string rs[j].pa) /\ W.cell? ⟨w.heap.size, 3, none⟩ = some (.slice (some ⟨sb, so, none⟩) S.syms.length sc) /\ W.cell? ⟨sb, so + rs[j].h * 3, none⟩ = some (.string S.syms[rs[j].h].1)) (first | exact ⟨x0, x1, x2, g3, cn⟩ | go_keep) (first | (go_at_call 60; (with_reducible refine (replaceAll_any _ _ HQ.out).mono ?_); rintro e w' ⟨rfl, rfl⟩))
             clear z1 z2
             have SR0 := SRow.new4 w4 ⟨#[114, 117, 108, 101]⟩ S.syms[rs[j].h].1 rs[j].op (⟨#[39]⟩ ++ rs[j].pa ++ ⟨#[39]⟩) (by decide) (by omega) (by omega) (by rw [ByteArray.size_append, ByteArray.size_append]; show 1 + rs[j].pa.size + 1 <= 200; omega)
             have hba : Below w4.heap.size w4 (w4.alloc (.cells #[.string ⟨#[114, 117, 108, 101]⟩, .string S.syms[rs[j].h].1, .string rs[j].op, .string (⟨#[39]⟩ ++ rs[j].pa ++ ⟨#[39]⟩)] 9)).drew := ((Below.refl w4.heap.size w4).alloc (Nat.le_refl _) _).drew
             have SR := SR0.below ((Below.refl _ _).drew)
             have HP4 := HP2.below hba
             have HX4 : BoxIs (w4.alloc (.cells #[.string ⟨#[114, 117, 108, 101]⟩, .string S.syms[rs[j].h].1, .string rs[j].op, .string (⟨#[39]⟩ ++ rs[j].pa ++ ⟨#[39]⟩)] 9)).drew xb 76 _ := HX.below hba
             clear x0 x1 x2 g3 cn HX hba HP2 SR0
             generalize (w4.alloc (.cells #[.string ⟨#[114, 117, 108, 101]⟩, .string S.syms[rs[j].h].1, .string rs[j].op, .string (⟨#[39]⟩ ++ rs[j].pa ++ ⟨#[39]⟩)] 9)).drew = w5 at *
             have hpb : b < w4.heap.size := Nat.lt_trans hbx l3
             have hge : w.heap.size <= w4.heap.size := by have := HP4.lt; omega
             generalize w4.heap.size = pb at *
             have x3 := cellOf (i := 3) HX4 rfl
             obtain ⟨iS, hiS, ha0, ha1, ha2⟩ := info_parts infoS
             clear lg2 hsb l3
             go_wp2
             go_loopw [11, 13, 86] (fun v _ i wr => ∃ (k : Nat) (ys : List ByteArray), k <= rs[j].args.length /\ i = .int .i64 k /\ PrS w #[.string S.nm, .int .i64 S.ver, .slice ca S.cols.length cc, .slice (some ⟨sb, so, none⟩) S.syms.length sc, .slice (some ⟨rb, ro, none⟩) rs.length rc, .int .i64 S.st] b 1 (2100 * (30 + j)) wr /\ SRow wr pb v (4 + k) ys) (fun _ _ i _ => rs[j].args.length - (intOf i).toNat)
             case atStart => exact ⟨0, _, Nat.zero_le _, rfl, HP4, SR⟩
             case round =>
               clear HP4 SR HX4 x3
               obtain ⟨k, ys, hk, rfl, hP, hSR⟩ := hrel
               have lg := heap_lt' hP.g.g
               have g3 := cellOf (i := 3) hP.g.g rfl
               have hal : rs[j].args.length <= 3 := q3
               obtain ⟨pg, cap, rfl, hpg, hcap, hpt⟩ := hSR.parts (by omega) (by omega)
               have hpw : pg < wr.heap.size := hpt.1
               by_cases hlk : k < rs[j].args.length
               · obtain ⟨ab, ao, rfl, hab, hax⟩ := HA.out wr hP.g.b (by omega)
                 have cx := hax k hlk
                 have hxs := Q4.out _ (List.getElem_mem hlk)
                 obtain ⟨sb', so', e', hsb, hsc⟩ := HY.out _ hP.g.b
                 cases e'
                 have cn := (hsc _ hxs).1
                 have sz2 := (N4.out _ (List.getElem_mem hxs)).1.hi
                 have j1 : (0 : Int) <= (k : Int) := by omega
                 have j2 : (k : Int) < (rs[j].args.length : Int) := by omega
                 have j3 : (0 : Int) <= (rs[j].args[k] : Int) := by omega
                 have j4 : (rs[j].args[k] : Int) < (S.syms.length : Int) := by omega
                 have HSR := Lib.hid hSR
                 have HP := Lib.hid hP
                 clear hax hsc hSR hP
                 go_wp2_with (at_builtin; (refine wpList_append_own _ rfl _ _ 35 rfl pb 9 iS _ 1 16 Tryz.underlying35 hiS ha0 ha1 ha2 rfl (by decide) _ (4 + k) (ys.map Value.string) rfl (HSR.out.own.alloc _) ⟨wr.heap.size, 0, none⟩ 1 1 [.string S.syms[rs[j].args[k]].1] rfl rfl (World.news_of_block (cs := #[.string S.syms[rs[j].args[k]].1]) (t := 9) (fr := (0, 0)) (heap_alloc_new wr _)) (by simp [Value.oneCell']) (by unfold maxLen; omega) (by omega) (by simp; omega) ?_); intro v6 w6 hown6 hgrow6 _)
                 have hP6 := Lib.hid (HP.out.grown hgrow6 (fun q hq => by obtain ⟨cs, fr, z1, z2⟩ := HSR.out.block q hq; exact ⟨cs, fr, z1, by omega⟩))
                 have hS6 : Hid (SRow w6 pb v6 (4 + (k + 1)) (ys ++ [S.syms[rs[j].args[k]].1])) := Lib.hid ⟨by rw [List.length_append, HSR.out.len]; rfl, fun y hy => by
                   rcases List.mem_append.1 hy with hy | hy
                   · exact HSR.out.sz y hy
                   · simp at hy; subst hy; omega, by rw [List.map_append]; exact hown6⟩
                 clear HP HSR hown6 hgrow6 hpt cn cx g3
                 go_wp2
                 go_roundw
                 case rel => first | exact ⟨k + 1, _, by omega, by go_num, hP6.out, hS6.out⟩ | ((repeat apply Exists.intro); refine ⟨?_, rfl⟩; exact ⟨k + 1, _, by omega, by go_num, hP6.out, hS6.out⟩)
                 case measure => simp [intOf]; omega
               · have j2 : ¬ (k : Int) < (rs[j].args.length : Int) := by omega
                 have HL : Hid (Calls Tryz.prog 56 #[.slice (some ⟨pg, 0, none⟩) (4 + k) cap, .pointer (some ⟨b, 0, none⟩)] wr fun e w' => e = .returned (.tuple #[]) /\ PrS w #[.string S.nm, .int .i64 S.ver, .slice ca S.cols.length cc, .slice (some ⟨sb, so, none⟩) S.syms.length sc, .slice (some ⟨rb, ro, none⟩) rs.length rc, .int .i64 S.st] b 1 (2100 * (30 + (j + 1))) w') := by
                   refine Lib.hid ?_
                   have := line_any b b 1 (2100 * (30 + j)) pg 0 cap ys wr hP.bl (by omega) hpt (by rw [hSR.len]; exact hcap)
                   rw [hSR.len] at this
                   refine this.mono ?_
                   rintro e w' ⟨he, hB, hb', _⟩
                   exact ⟨he, (hP.wrote hB hb').weak (by omega) (by omega)⟩
                 clear hP hSR hpt g3
                 go_wp2_with (go_at_call 56; refine HL.out.mono ?_; rintro e w' ⟨rfl, hP7⟩)
                 go_roundw
                 case rel => first | exact ⟨j + 1, by omega, by go_num, hP7⟩ | ((repeat apply Exists.intro); refine ⟨?_, rfl⟩; exact ⟨j + 1, by omega, by go_num, hP7⟩)
                 case measure => simp [intOf]; omega
           · have i3 : ¬ (j : Int) < (rs.length : Int) := by omega
             have g3 := cellOf (i := 3) hP.g.g rfl
             have g5 := cellOf (i := 5) hP.g.g rfl
             obtain ⟨sb, so, rfl, hsb, hsc⟩ := HY.out _ hP.g.b
             have cn := (hsc _ hst).1
             have sz := (N4.out _ (List.getElem_mem hst)).1.hi
             have i5 : (0 : Int) <= (S.st : Int) := by omega
             have i6 : (S.st : Int) < (S.syms.length : Int) := by omega
             have HL := Lib.hid (line2 w _ b 1 (2100 * (30 + j)) ⟨#[115, 116, 97, 114, 116]⟩ S.syms[S.st].1 wo hP (by omega) (by decide) (by omega))
             have hlt' := hP.lt
             clear hP hsc
             go_wp2_with (first
               | (go_at_call 56; refine HL.out.mono ?_; rintro e w' ⟨rfl, hP7, _⟩)
               | (have _ := hP7; go_at_call 61; refine (string_any b b _ _ _ hP7.bl).mono ?_; rintro e w'' ⟨⟨s, rfl, hs⟩, hb8⟩))
             go_ret
             exact ⟨⟨s, rfl, by omega⟩, hP7.g.b.trans (hb8.mono (by omega))⟩
end Go.EvPart
namespace Go.EvPart
open Go Go.Proofs Go.RowKit Go.EvNil
structure Gr (S : Sample) (M : Nat -> Nat) (rs : List Rl) (ca sa : Option Addr) (cc sc rb ro rc : Nat) (w : World) : Prop where
 ok : SOk S
 nice : SNice S
 lim : ∀ i, 1 <= M i /\ M i <= 5
 sub : rs.Sublist S.rules
 c : ColsAt w ca S.cols
 y : SymsAt w sa S.syms M
 r : RulesAt w (some ⟨rb, ro, none⟩) rs
 k1 : S.cols.length <= cc
 k2 : S.syms.length <= sc
 k3 : rs.length <= rc
abbrev gA (S : Sample) (rs : List Rl) (ca sa : Option Addr) (cc sc rb ro rc : Nat) : Array Value := #[.string S.nm, .int .i64 S.ver, .slice ca S.cols.length cc, .slice sa S.syms.length sc, .slice (some ⟨rb, ro, none⟩) rs.length rc, .int .i64 S.st]
section
variable {S : Sample} {M : Nat -> Nat} {rs : List Rl} {ca sa : Option Addr} {cc sc rb ro rc : Nat} {w : World}
theorem Gr.below {w' : World} (h : Gr S M rs ca sa cc sc rb ro rc w) (hb : Below w.heap.size w w') : Gr S M rs ca sa cc sc rb ro rc w' :=
 ⟨h.ok, h.nice, h.lim, h.sub, h.c.below hb, h.y.below hb, h.r.below hb, h.k1, h.k2, h.k3⟩
theorem Gr.rn (h : Gr S M rs ca sa cc sc rb ro rc w) : rs.length <= 40 := Nat.le_trans h.sub.length_le h.ok.rules
theorem Gr.al (h : Gr S M rs ca sa cc sc rb ro rc w) : ∀ r ∈ rs, r.args.length <= 3 := fun r hr => (h.nice.rules r (h.sub.subset hr)).al
end
theorem GB.drew' {w wr : World} {G : Array Value} (h : GB w G wr) : GB w G wr.drew := h.below ((Below.refl _ _).drew)
theorem takeD {P : Program} {ops : Array Oper} {Q : Exit -> Act -> World -> Prop} {md : Region.Mode} {S : World -> Prop} {i : Nat} {oi : Oper} {d : Option Tmp} {v : Value} {fuel : Nat} {listed : Array Bool} {a : Act} {w : World} (hi : ops[i]? = some oi) (hd : oi.dst = d)
   (hs : Region.noSelect ops = true) (hf : Region.free md ops listed i = true) (hr : (Region.ready md ops listed).contains i = true)
   (hQ : ∀ c a w, Q (.panic c) (a.put d v) w -> Q (.panic c) a w) (hy : YieldsIf P ops S oi v a) (hS : S w)
   (h : wpAnyH P md ops Q S fuel (listed.setIfInBounds i true) (a.put d v) w) : wpAnyH P md ops Q S (fuel + 1) listed a w := by
 subst hd; exact wpAnyH_take hi hs hf hr hQ hy hS h
theorem Qa (a : Act) (d : Option Tmp) (v : Value) : a.put d v = (match d with | some d => { a with tmps := a.tmps.setIfInBounds d v } | none => a) := by cases d <;> rfl
theorem Qb {α : Type} (l : List α) (i : Nat) (a : α) : l.toArray.setIfInBounds i a = (l.set i a).toArray := List.setIfInBounds_toArray ..
theorem Qc {α : Type} (x : α) (xs : List α) (a : α) : (x :: xs).set 0 a = a :: xs := rfl
theorem Qd {α : Type} (x : α) (xs : List α) (n : Nat) (a : α) : (x :: xs).set (n + 1) a = x :: xs.set n a := rfl
theorem tkD {P : Program} {ops : Array Oper} {Q : Exit → Act → World → Prop} {md : Region.Mode} {S : World → Prop} {i : Nat} {oi : Oper} {d : Option Tmp} {v : Value} {fuel : Nat} {listed : Array Bool} {a : Act} {w : World} (hi : ops[i]? = some oi) (hd : oi.dst = d)
    (hy : YieldsIf P ops S oi v a) (hS : S w)
    (h : wpAnyH P md ops Q S fuel (listed.setIfInBounds i true) (a.put d v) w)
    (hs : Region.noSelect ops = true := by kernel_rfl) (hf : Region.free md ops listed i = true := by kernel_rfl) (hr : (Region.ready md ops listed).contains i = true := by kernel_rfl)
    (hQ : ∀ c a w, Q (.panic c) (a.put d v) w → Q (.panic c) a w := by exact fun _ _ _ h => h) : wpAnyH P md ops Q S (fuel + 1) listed a w := takeD hi hd hs hf hr hQ hy hS h
end Go.EvPart
namespace Go.EvPart
open Go Go.Proofs Go.RowKit Go.EvNil
section
variable {S : Sample} {M : Nat -> Nat} {rs : List Rl} {ca sa : Option Addr} {cc sc rb ro rc : Nat} {w : World}
theorem print_g (h : Gr S M rs ca sa cc sc rb ro rc w) : Calls Tryz.prog 27 #[.agg (gA S rs ca sa cc sc rb ro rc)] w fun e w' => RetNe 1 e /\ Below w.heap.size w w' :=
 print_ne S h.ok h.nice w M h.lim rs h.sub ca sa (some ⟨rb, ro, none⟩) cc sc rc h.c h.y h.r h.k1 h.k2 h.k3
theorem str_ne {s : ByteArray} (h : 1 <= s.size) : (s.toList == []) = false := by
 rw [beq_eq_false_iff_ne, ByteArray.toList_eq]
 intro e
 have : s.data.toList.length = 0 := by rw [e]; rfl
 have h2 : s.data.toList.length = s.size := Array.length_toList
 omega
theorem progRight_yes (h : Gr S M rs ca sa cc sc rb ro rc w) : Calls Tryz.prog 105 #[.agg (gA S rs ca sa cc sc rb ro rc)] w fun e w' => e = .returned (.bool true) /\ Below w.heap.size w w' := by
 have HP := Lib.hid (print_g (h.below ((Below.refl w.heap.size w).alloc (Nat.le_refl _) (.cells (gA S rs ca sa cc sc rb ro rc) 29))))
 clear h
 go_enter Tryz.func105, Tryz.ntmps105
 go_wp2_with (go_at_call 27; (with_reducible refine HP.out.mono ?_); rintro e w' ⟨⟨s, rfl, hs⟩, hb'⟩; have hse := str_ne hs)
 go_ret
 exact ⟨rfl, ((Below.refl _ _).alloc (Nat.le_refl _) _).trans (hb'.mono (by simp))⟩
theorem isTermOf_any (h : Gr S M rs ca sa cc sc rb ro rc w) (pa : Option Addr) (pc : Nat) (p : List Int) (s : Nat) (hp : ListAt w pa p) (hpn : p.length <= 100) (r : Bool) (hr : r = true ↔ eat rs [s] p = some p.length) :
   Calls Tryz.prog 47 #[.agg (gA S rs ca sa cc sc rb ro rc), .slice pa p.length pc, .int .i64 s] w fun e w' => e = .returned (.bool r) /\ Below w.heap.size w w' := by
 have HB1 : ∀ o1, Below w.heap.size w (w.alloc o1) := fun o1 => (Below.refl _ _).alloc (Nat.le_refl _) _
 have HE := Lib.hid (fun R h1 h2 => end_any (.string S.nm) (.int .i64 S.ver) (.slice ca S.cols.length cc) (.slice sa S.syms.length sc) (.int .i64 S.st) rs rb ro rc pa pc p 0 s (w.alloc (.cells (gA S rs ca sa cc sc rb ro rc) 29)) (h.r.below (HB1 _)) (hp.below (HB1 _)) h.al h.rn hpn (by omega) R h1 h2)
 have HR := Lib.hid (fun W (hW : Below w.heap.size w W) => progRight_yes (h.below hW))
 have HX := GB.new w (gA S rs ca sa cc sc rb ro rc)
 cases he : eat rs [s] p with
 | none =>
   obtain rfl : r = false := by cases r <;> simp_all
   have HE1 := Lib.hid (HE.out (.tuple #[.int .i64 0, .bool false]) (fun n hn => by rw [List.drop_zero, he] at hn; cases hn) (fun _ => rfl))
   clear he hr HE HR HX
   go_enter Tryz.func47, Tryz.ntmps47
   go_wp2_with (go_at_call 49; refine HE1.out.mono ?_; rintro e w' ⟨rfl, hb'⟩)
   go_ret
   exact ⟨rfl, (HB1 _).trans (hb'.mono (by simp))⟩
 | some n =>
   have HE1 := Lib.hid (HE.out (.tuple #[.int .i64 (n : Nat), .bool true]) (fun m hm => by rw [List.drop_zero, he] at hm; cases hm; simp) (fun hn => by rw [List.drop_zero, he] at hn; cases hn))
   by_cases hn : n = p.length
   · obtain rfl : r = true := hr.2 (by rw [he, hn])
     have e1 : ((n : Int) == (p.length : Int)) = true := by simp [hn]
     clear he hr HE hn
     go_enter Tryz.func47, Tryz.ntmps47
     go_wp2_with (first
       | (go_at_call 49; refine HE1.out.mono ?_; rintro e w1 ⟨rfl, hb1⟩; have HX1 := HX.below hb1; have g0 := cellOf (i := 0) HX1.g rfl; have g1 := cellOf (i := 1) HX1.g rfl; have g2 := cellOf (i := 2) HX1.g rfl; have g3 := cellOf (i := 3) HX1.g rfl; have g4 := cellOf (i := 4) HX1.g rfl; have g5 := cellOf (i := 5) HX1.g rfl)
       | (have _ := g5; go_at_call 105; refine (HR.out _ HX1.b).mono ?_; rintro e w2 ⟨rfl, hb2⟩))
     go_ret
     exact ⟨rfl, HX1.b.trans (hb2.mono HX1.b.size)⟩
   · obtain rfl : r = false := by
       cases r
       · rfl
       · have := hr.1 rfl; rw [he] at this; cases this; exact absurd rfl hn
     have e1 : ((n : Int) == (p.length : Int)) = false := by simp; omega
     clear he hr HE hn HR HX
     go_enter Tryz.func47, Tryz.ntmps47
     go_wp2_with (go_at_call 49; refine HE1.out.mono ?_; rintro e w' ⟨rfl, hb'⟩)
     go_ret
     exact ⟨rfl, (HB1 _).trans (hb'.mono (by simp))⟩
end
end Go.EvPart
namespace Go.EvPart
open Go Go.Proofs Go.RowKit Go.EvNil
theorem contains_no (pa : Option Addr) (pc : Nat) (p : List Int) (w : World) (hp : ListAt w pa p) (hpn : p.length <= 100) (h : ∀ i (hi : i < p.length), p[i] ≠ -1) :
   Calls Tryz.prog 48 #[.slice pa p.length pc, .int .i64 (-1)] w fun e w' => e = .returned (.bool false) /\ w = w' := by
 have HI : Hid (Calls Tryz.prog 106 #[.slice pa p.length pc, .int .i64 (-1)] w fun e w' => e = .returned (.int .i64 (-1)) /\ w = w') := by
   refine Lib.hid ?_
   have H := Lib.hid h
   clear h
   go_enter Tryz.func106, Tryz.ntmps106
   go_wp2
   go_loop [5, 8] (fun _ i => ∃ k : Nat, k <= p.length /\ i = .int .i64 k) (fun _ i => p.length - (intOf i).toNat)
   case atStart => exact ⟨0, Nat.zero_le _, rfl⟩
   case round =>
     obtain ⟨k, hk, rfl⟩ := hrel
     by_cases hlt : k < p.length
     · obtain ⟨b, o, rfl, hb, hc⟩ := hp (by omega)
       have cx := hc k hlt
       have hne := H.out k hlt
       have e1 : ((-1 : Int) == p[k]) = false := by simp; omega
       have i1 : (0 : Int) <= (k : Int) := by omega
       have i2 : (k : Int) < (p.length : Int) := by omega
       clear hc hp hne
       go_wp2
       go_round
       case rel => exact ⟨k + 1, by omega, by go_num⟩
       case measure => simp [intOf]; omega
     · have i2 : ¬ (k : Int) < (p.length : Int) := by omega
       go_wp2
       go_ret
       exact ⟨rfl, rfl⟩
 clear h hp
 go_enter Tryz.func48, Tryz.ntmps48
 go_wp2_with (go_at_call 106; (with_reducible refine HI.out.mono ?_); rintro e w' ⟨rfl, rfl⟩)
 go_ret
 exact ⟨rfl, rfl⟩
theorem contains_first (pa : Option Addr) (pc : Nat) (q : List Int) (w : World) (hp : ListAt w pa (-1 :: q)) (hpn : q.length <= 100) :
   Calls Tryz.prog 48 #[.slice pa (-1 :: q : List Int).length pc, .int .i64 (-1)] w fun e w' => e = .returned (.bool true) /\ w = w' := by
 have HI : Hid (Calls Tryz.prog 106 #[.slice pa (-1 :: q : List Int).length pc, .int .i64 (-1)] w fun e w' => e = .returned (.int .i64 0) /\ w = w') := by
   refine Lib.hid ?_
   obtain ⟨b, o, rfl, hb, hc⟩ := hp (by simp)
   have cx := hc 0 (by simp)
   rw [List.getElem_cons_zero, Nat.add_zero] at cx
   have i2 : (0 : Int) < (q.length : Int) + 1 := by omega
   clear hc hp
   rw [List.length_cons]
   go_enter Tryz.func106, Tryz.ntmps106
   go_wp2
   go_loop [5, 8] (fun _ i => i = .int .i64 0) (fun _ i => 0)
   case atStart => exact rfl
   case round =>
     subst hrel
     go_wp2
     go_ret
     exact ⟨rfl, rfl⟩
 clear hp
 generalize (-1 :: q : List Int).length = n at *
 go_enter Tryz.func48, Tryz.ntmps48
 go_wp2_with (go_at_call 106; (with_reducible refine HI.out.mono ?_); rintro e w' ⟨rfl, rfl⟩)
 go_ret
 exact ⟨rfl, rfl⟩
section
variable {S : Sample} {M : Nat -> Nat} {rs : List Rl} {ca sa : Option Addr} {cc sc rb ro rc : Nat} {w : World}
theorem check_yes (h : Gr S M rs ca sa cc sc rb ro rc w) (pa : Option Addr) (pc n : Nat) (p : List Int) (hp : ListAt w pa p) (hP : Prg rs M S.st n p) :
   Calls Tryz.prog 21 #[.agg (gA S rs ca sa cc sc rb ro rc), .slice pa p.length pc] w fun e w' => e = .returned (.bool true) /\ Below w.heap.size w w' := by
 have hle : p.length <= 5 := by rw [hP.len]; exact Nat.le_trans hP.le (h.lim _).2
 have i0 : ¬ (9 : Int) < (p.length : Int) := by omega
 have HT := Lib.hid (fun W (hW : Below w.heap.size w W) => isTermOf_any (h.below hW) pa pc p S.st (hp.below hW) (by omega) true (by simp; rw [hP.len]; exact hP.eat))
 have HN := Lib.hid (fun W (hW : Below w.heap.size w W) => contains_no pa pc p W (hp.below hW) (by omega) (fun i hi => by have := (hP.rule p[i] (List.getElem_mem hi)).1; omega))
 have HE := Lib.hid (fun W (hW : Below w.heap.size w W) k s (hk : k <= 100) => end_any (.string S.nm) (.int .i64 S.ver) (.slice ca S.cols.length cc) (.slice sa S.syms.length sc) (.int .i64 S.st) rs rb ro rc pa pc p k s W (h.r.below hW) (hp.below hW) h.al h.rn (by omega) hk)
 have HX := GB.new w (gA S rs ca sa cc sc rb ro rc)
 have HS := Lib.hid hP.sub
 have HP := Lib.hid (fun W (hW : Below w.heap.size w W) => hp.below hW)
 have HY := Lib.hid (fun W (hW : Below w.heap.size w W) => h.y.below hW)
 have HR := Lib.hid (fun W (hW : Below w.heap.size w W) => h.r.below hW)
 have HRU := Lib.hid (fun r hr => (h.nice.rules r (h.sub.subset hr)).h)
 have hrn := h.rn
 have hsn := h.ok.syms
 have HM := Lib.hid h.lim
 clear h hp hP
 go_enter Tryz.func21, Tryz.ntmps21
 go_wp2_with (first
   | (go_at_call 47; refine (HT.out _ HX.b).mono ?_; rintro e w1 ⟨rfl, hb1⟩; have HX1 := HX.below hb1)
   | (have _ := HX1; go_at_call 48; refine (HN.out _ HX1.b).mono ?_; rintro e w2 ⟨rfl, rfl⟩))
 clear HX HT HN hb1
 go_loopw [5, 6, 7, 8, 9, 27, 38] (fun _ _ _ _ _ i _ wr => ∃ k : Nat, k <= p.length /\ i = .int .i64 k /\ GB w (gA S rs ca sa cc sc rb ro rc) wr) (fun _ _ _ _ _ i _ _ => p.length - (intOf i).toNat)
 case atStart => exact ⟨0, Nat.zero_le _, rfl, HX1⟩
 case round =>
   clear HX1
   obtain ⟨k, hk, rfl, hg⟩ := hrel
   by_cases hlt : k < p.length
   · obtain ⟨x, hx, hpx, m, hm, hmM⟩ := HS.out k hlt
     obtain ⟨pb, po, rfl, hpb, hpc⟩ := HP.out _ hg.b (by omega)
     have cp := hpc k hlt
     rw [(List.getElem?_eq_some_iff.1 hpx).2] at cp
     obtain ⟨rb', ro', e', hrb, hrc⟩ := HR.out _ hg.b
     cases e'
     obtain ⟨aa, ac, hr⟩ := hrc x hx
     have q0 := hr.c0
     obtain ⟨sb, so, rfl, hsb, hsc⟩ := HY.out _ hg.b
     have hh := HRU.out _ (List.getElem_mem hx)
     have cM := (hsc _ hh).2.2
     have HEk := Lib.hid (HE.out _ hg.b k rs[x].h (by omega) (.tuple #[.int .i64 ((k + m : Nat) : Int), .bool true]) (fun n hn => by rw [hm] at hn; cases hn; rfl) (fun hn => by rw [hm] at hn; cases hn))
     have g0 := cellOf (i := 0) hg.g rfl
     have g1 := cellOf (i := 1) hg.g rfl
     have g2 := cellOf (i := 2) hg.g rfl
     have g3 := cellOf (i := 3) hg.g rfl
     have g4 := cellOf (i := 4) hg.g rfl
     have g5 := cellOf (i := 5) hg.g rfl
     have lg := heap_lt' hg.g
     have i1 : (0 : Int) <= (k : Int) := by omega
     have i2 : (k : Int) < (p.length : Int) := by omega
     have i3 : (0 : Int) <= (x : Int) := by omega
     have i4 : (x : Int) < (rs.length : Int) := by omega
     have i5 : (0 : Int) <= (rs[x].h : Int) := by omega
     have i6 : (rs[x].h : Int) < (S.syms.length : Int) := by omega
     have mM := (HM.out rs[x].h).2
     have i7 : (m : Int) <= 5 := by omega
     have i8 : (k : Int) + (m : Int) - (k : Int) = (m : Int) := by omega
     have i9 : ¬ (M rs[x].h : Int) < (m : Int) := by omega
     clear hpc hrc hr hsc hpx hm
     go_wp2_with (go_at_call 49; refine HEk.out.mono ?_; rintro e w3 ⟨rfl, hb3⟩; have hg3 := hg.below hb3; have k3 := cellOf (i := 3) hg3.g rfl; have cM3 : w3.cell? ⟨sb, so + rs[x].h * 3 + 2, none⟩ = some (.int .i64 (M rs[x].h)) := (by rw [hb3.cell hsb]; exact cM); have hsb3 : sb < w3.heap.size := Nat.lt_of_lt_of_le hsb hb3.size)
     exact ⟨⟨k + 1, by omega, by go_num, hg3⟩, by simp [intOf]; omega⟩
   · have i2 : ¬ (k : Int) < (p.length : Int) := by omega
     go_wp2
     go_ret
     exact ⟨rfl, hg.b⟩
theorem check_no (h : Gr S M rs ca sa cc sc rb ro rc w) (pa : Option Addr) (pc : Nat) (p : List Int) (hp : ListAt w pa p) (hle : p.length <= 9) (hn : eat rs [S.st] p ≠ some p.length) :
   Calls Tryz.prog 21 #[.agg (gA S rs ca sa cc sc rb ro rc), .slice pa p.length pc] w fun e w' => e = .returned (.bool false) /\ Below w.heap.size w w' := by
 have i0 : ¬ (9 : Int) < (p.length : Int) := by omega
 have HT := Lib.hid (fun W (hW : Below w.heap.size w W) => isTermOf_any (h.below hW) pa pc p S.st (hp.below hW) (by omega) false (by simp [hn]))
 have HX := GB.new w (gA S rs ca sa cc sc rb ro rc)
 clear h hp hn
 go_enter Tryz.func21, Tryz.ntmps21
 go_wp2_with (go_at_call 47; refine (HT.out _ HX.b).mono ?_; rintro e w1 ⟨rfl, hb1⟩; have HX1 := HX.below hb1)
 go_ret
 exact ⟨rfl, HX1.b⟩
theorem check_hole (h : Gr S M rs ca sa cc sc rb ro rc w) (pa : Option Addr) (pc : Nat) (hp : ListAt w pa [-1]) :
   Calls Tryz.prog 21 #[.agg (gA S rs ca sa cc sc rb ro rc), .slice pa 1 pc] w fun e w' => e = .returned (.bool false) /\ Below w.heap.size w w' := by
 have HT := Lib.hid (fun W (hW : Below w.heap.size w W) => isTermOf_any (h.below hW) pa pc [-1] S.st (hp.below hW) (by simp) true (by simp [eat_hole, eat_nil]))
 have HN := Lib.hid (fun W (hW : Below w.heap.size w W) => contains_first pa pc [] W (hp.below hW) (by simp))
 have HX := GB.new w (gA S rs ca sa cc sc rb ro rc)
 clear h hp
 go_enter Tryz.func21, Tryz.ntmps21
 go_wp2_with (first
   | (go_at_call 47; refine (HT.out _ HX.b).mono ?_; rintro e w1 ⟨rfl, hb1⟩; have HX1 := HX.below hb1)
   | (have _ := HX1; go_at_call 48; refine (HN.out _ HX1.b).mono ?_; rintro e w2 ⟨rfl, rfl⟩))
 go_ret
 exact ⟨rfl, HX1.b⟩
end
end Go.EvPart
