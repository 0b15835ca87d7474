/- ItemPartials, one part of the proof: PartG1, PartG2, PartG3, PartG4, PartG5, PartG6, PartG7. -/
import Derived.Test.YtljoobbnhbaklaaGreatDoorProg
import Derived.WalkKit
import Derived.WalkSpells
import Derived.WalkLawsBesides
import Derived.Deep.QuietTactic
import Derived.BigQuiet
import Derived.Lib.Hide
import Derived.Lib.SmallJoins
import Derived.Test.YtljoobbnhbaklaaGreatDoorP00
import Derived.Deep.RegionHeld3
import Derived.Deep.CutBlock
import Derived.Deep.Upon
set_option linter.all false
set_option maxRecDepth 100000
set_option maxHeartbeats 16000000
namespace Go.EvPart
open Go Go.Proofs Go.RowKit
structure NameOk (s : ByteArray) : Prop where
 lo : 1 <= s.size
 hi : s.size <= 20
 at' : ∀ k (hk : k < s.size), (97 <= (s[k].toNat : Int) /\ (s[k].toNat : Int) <= 122) ∨ (65 <= (s[k].toNat : Int) /\ (s[k].toNat : Int) <= 90) ∨ (0 < k /\ ((s[k].toNat : Int) = 95 ∨ 48 <= (s[k].toNat : Int) /\ (s[k].toNat : Int) <= 57))
theorem isName_yes (s : ByteArray) (w : World) (h : NameOk s) : Calls Tryz.prog 115 #[.string s] w fun e w' => e = .returned (.bool true) /\ w = w' := by
 have h1 := h.lo
 have h2 := h.hi
 have H := Lib.hid h.at'
 clear h
 have i1 : ¬ (s.size : Int) < 1 := by omega
 have i2 : ¬ (20 : Int) < (s.size : Int) := by omega
 go_enter Tryz.func115, Tryz.ntmps115
 go_wp2
 go_loop [3, 4, 5, 16] (fun _ _ _ i => ∃ k : Nat, k <= s.size /\ i = .int .i64 k) (fun _ _ _ i => s.size - (intOf i).toNat)
 case atStart => exact ⟨0, Nat.zero_le _, rfl⟩
 case round =>
   obtain ⟨k, hk, rfl⟩ := hrel
   by_cases hlt : k < s.size
   · have hc := H.out k hlt
     have j0 : (k : Int) < (s.size : Int) := by omega
     rcases hc with ⟨a, b⟩ | ⟨a, b⟩ | ⟨z, a | ⟨a, b⟩⟩
     · go_wp2
       all_goals first
         | (go_round
            case rel => exact ⟨k + 1, by omega, by go_num⟩
            case measure => simp [intOf]; omega)
         | (exfalso; omega)
     · have c : ¬ 97 <= (s[k].toNat : Int) := by omega
       go_wp2
       all_goals first
         | (go_round
            case rel => exact ⟨k + 1, by omega, by go_num⟩
            case measure => simp [intOf]; omega)
         | (exfalso; omega)
     · have c1 : decide (97 <= (s[k].toNat : Int)) = false := by rw [a]; rfl
       have c2 : decide ((s[k].toNat : Int) <= 90) = false := by rw [a]; rfl
       have c3 : ((k : Int) == 0) = false := by simp; omega
       have c4 : ((s[k].toNat : Int) != 95) = false := by rw [a]; rfl
       clear a
       go_wp2
       all_goals first
         | (go_round
            case rel => exact ⟨k + 1, by omega, by go_num⟩
            case measure => simp [intOf]; omega)
         | (exfalso; omega)
     · have c1 : ¬ 97 <= (s[k].toNat : Int) := by omega
       have c2 : ¬ 65 <= (s[k].toNat : Int) := by omega
       have c3 : ((k : Int) == 0) = false := by simp; omega
       have c4 : ((s[k].toNat : Int) != 95) = true := by simp; omega
       have c5 : ¬ (s[k].toNat : Int) < 48 := by omega
       have c6 : ¬ 57 < (s[k].toNat : Int) := by omega
       go_wp2
       all_goals first
         | (go_round
            case rel => exact ⟨k + 1, by omega, by go_num⟩
            case measure => simp [intOf]; omega)
         | (exfalso; omega)
   · have j0 : ¬ (k : Int) < (s.size : Int) := by omega
     go_wp2
     go_ret
     exact ⟨rfl, rfl⟩
end Go.EvPart
namespace Go.EvPart
open Go Go.Proofs Go.RowKit Go.EvNil
theorem isParameter_yes (s : ByteArray) (w : World) (h1 : s.size <= 60) (h2 : ∀ k (hk : k < s.size), 32 <= (s[k].toNat : Int) /\ (s[k].toNat : Int) <= 126) : Calls Tryz.prog 180 #[.string s] w fun e w' => e = .returned (.bool true) /\ w = w' := by
 have H := Lib.hid h2
 clear h2
 have i2 : ¬ (60 : Int) < (s.size : Int) := by omega
 go_enter Tryz.func180, Tryz.ntmps180
 go_wp2
 go_loop [3, 9] (fun _ i => ∃ k : Nat, k <= s.size /\ i = .int .i64 k) (fun _ i => s.size - (intOf i).toNat)
 case atStart => exact ⟨0, Nat.zero_le _, rfl⟩
 case round =>
   obtain ⟨k, hk, rfl⟩ := hrel
   by_cases hlt : k < s.size
   · obtain ⟨a, b⟩ := H.out k hlt
     have j0 : (k : Int) < (s.size : Int) := by omega
     have c1 : ¬ (s[k].toNat : Int) < 32 := by omega
     have c2 : ¬ 126 < (s[k].toNat : Int) := by omega
     go_wp2
     all_goals first
       | (go_round
          case rel => exact ⟨k + 1, by omega, by go_num⟩
          case measure => simp [intOf]; omega)
       | (exfalso; omega)
   · have j0 : ¬ (k : Int) < (s.size : Int) := by omega
     go_wp2
     go_ret
     exact ⟨rfl, rfl⟩
def KindIs (k : Nat) (e : Ending) : Prop := ∃ s : ByteArray, e = .returned (.string s) /\ 4 <= s.size /\ s.size <= 6
theorem kindName_yes (k : Nat) (w : World) (h1 : 1 <= k) (h2 : k <= 5) : Calls Tryz.prog 59 #[.int .i64 k] w fun e w' => KindIs k e /\ w = w' := by
 have : k = 1 ∨ k = 2 ∨ k = 3 ∨ k = 4 ∨ k = 5 := by omega
 rcases this with rfl | rfl | rfl | rfl | rfl
 all_goals
   go_enter Tryz.func59, Tryz.ntmps59
   go_wp2
   go_ret
   exact ⟨⟨_, rfl, by decide, by decide⟩, rfl⟩
theorem isSymbol_yes (c0 c1 c2 c4 c5 : Value) (sa : Option Addr) (sn sc k : Nat) (w : World) (h : k < sn) : Calls Tryz.prog 120 #[.agg #[c0, c1, c2, .slice sa sn sc, c4, c5], .int .i64 k] w fun e w' => e = .returned (.bool true) /\ Below w.heap.size w w' := by
 have j0 : (k : Int) < (sn : Int) := by omega
 go_enter Tryz.func120, Tryz.ntmps120
 go_wp2
 go_ret
 exact ⟨rfl, (Below.refl _ _).alloc (Nat.le_refl _) _⟩
def Same (l m : List Nat) (k : Nat) : Prop := ∀ j, j < k -> l[j]? = m[j]?
theorem Same.snoc {l m : List Nat} {k : Nat} (h : Same l m k) (h1 : k < l.length) (h2 : k < m.length) (e : l[k] = m[k]) : Same l m (k + 1) := fun j hj => by
 by_cases ej : j = k
 · subst ej; rw [List.getElem?_eq_getElem h1, List.getElem?_eq_getElem h2, e]
 · exact h j (by omega)
theorem Same.all {l m : List Nat} {k : Nat} (h : Same l m k) (hn : l.length = m.length) (hk : l.length <= k) : l = m := by
 apply List.ext_getElem?
 intro j
 by_cases hj : j < k
 · exact h j hj
 · rw [List.getElem?_eq_none (by omega), List.getElem?_eq_none (by omega)]
theorem equal_ints (a b : Option Addr) (c d : Nat) (l m : List Nat) (w : World) (ha : ArgsAt w a l) (hb : ArgsAt w b m) (h1 : l.length <= 1000) (h2 : m.length <= 1000) (r : Bool) (hr : r = true ↔ l = m) :
   Calls Tryz.prog 293 #[.slice a l.length c, .slice b m.length d] w fun e w' => e = .returned (.bool r) /\ Drawn w w' := by
 by_cases hn : l.length = m.length
 · have he : ((l.length : Int) != (m.length : Int)) = false := by simp [hn]
   go_enter Tryz.func293, Tryz.ntmps293
   go_wp2
   go_loopw [5, 13] (fun _ i wr => ∃ k : Nat, k <= l.length /\ i = .int .i64 k /\ Drawn w wr /\ Same l m k) (fun _ i _ => l.length - (intOf i).toNat)
   case atStart => exact ⟨0, Nat.zero_le _, rfl, ⟨0, rfl⟩, fun j hj => absurd hj (Nat.not_lt_zero _)⟩
   case round =>
     obtain ⟨k, hk, rfl, ⟨q, rfl⟩, hS⟩ := hrel
     have HS := Lib.hid hS
     clear hS
     by_cases hlt : k < l.length
     · obtain ⟨b1, o1, rfl, hb1, hc1⟩ := ha (by omega)
       obtain ⟨b2, o2, rfl, hb2, hc2⟩ := hb (by omega)
       have hx := hc1 k hlt
       have hy := hc2 k (by omega)
       have i1 : (0 : Int) <= (k : Int) := by omega
       have i2 : (k : Int) < (l.length : Int) := by omega
       have i3 : (k : Int) < (m.length : Int) := by omega
       clear hc1 hc2 ha hb
       by_cases hxy : l[k] = m[k]
       · have hb : ((l[k] : Int) != (m[k] : Int)) = false := by simp [hxy]
         have HX := Lib.hid hxy
         clear hxy
         go_wp2
         go_quiet (fail)
         go_wp2
         go_roundw
         case rel => exact ⟨k + 1, by omega, by go_num, ⟨_, (by first | rfl | exact World.drewN_drewN _ _ _)⟩, HS.out.snoc hlt (by omega) HX.out⟩
         case measure => simp [intOf]; omega
       · have hb : ((l[k] : Int) != (m[k] : Int)) = true := by simp; omega
         obtain rfl : r = false := by
           cases r
           · rfl
           · have := hr.1 rfl; subst this; exact absurd rfl hxy
         clear hr
         go_wp2
         go_quiet (fail)
         go_wp2
         go_ret
         exact ⟨rfl, _, (by first | rfl | exact World.drewN_drewN _ _ _)⟩
     · have i2 : ¬ (k : Int) < (l.length : Int) := by omega
       obtain rfl : r = true := hr.2 (HS.out.all hn (by omega))
       clear hr
       go_wp2
       go_ret
       exact ⟨rfl, q, rfl⟩
 · obtain rfl : r = false := by cases r <;> simp_all
   have i1 : ((l.length : Int) != (m.length : Int)) = true := by simp; omega
   go_enter Tryz.func293, Tryz.ntmps293
   go_wp2
   go_ret
   exact ⟨rfl, 0, rfl⟩
end Go.EvPart
namespace Go.EvPart
open Go Go.Proofs Go.RowKit Go.EvNil
theorem below2 (w : World) (o1 o2 : Obj) : Below w.heap.size w ((w.alloc o1).alloc o2) := ((Below.refl _ _).alloc (Nat.le_refl _) _).alloc (by simp) _
theorem bytes_ne {a b : ByteArray} (h : a ≠ b) : (a.toList == b.toList) = false := by
 rw [beq_eq_false_iff_ne]
 intro e
 rw [ByteArray.toList_eq, ByteArray.toList_eq] at e
 apply h
 cases a; cases b
 congr 1
 exact Array.toList_inj.1 e
def Differ (r q : Rl) : Prop := r.h ≠ q.h ∨ r.op ≠ q.op ∨ r.pa ≠ q.pa ∨ r.args ≠ q.args
theorem sameRule_no (r q : Rl) (aa bb : Option Addr) (ac bc : Nat) (w : World) (ha : ArgsAt w aa r.args) (hb : ArgsAt w bb q.args) (h1 : r.args.length <= 3) (h2 : q.args.length <= 3) (hd : Differ r q) :
   Calls Tryz.prog 183 #[.agg #[.int .i64 r.h, .string r.op, .string r.pa, .slice aa r.args.length ac], .agg #[.int .i64 q.h, .string q.op, .string q.pa, .slice bb q.args.length bc]] w fun e w' => e = .returned (.bool false) /\ Below w.heap.size w w' := by
 by_cases e1 : r.h = q.h
 · have c1 : ((r.h : Int) == (q.h : Int)) = true := by simp [e1]
   by_cases e2 : r.op = q.op
   · have c2' : (r.op.toList == q.op.toList) = true := by simp [e2]
     by_cases e3 : r.pa = q.pa
     · have c3' : (r.pa.toList == q.pa.toList) = true := by simp [e3]
       have hne : r.args ≠ q.args := by
         rcases hd with h | h | h | h
         · exact absurd e1 h
         · exact absurd e2 h
         · exact absurd e3 h
         · exact h
       have HE := Lib.hid (fun W (hW : Below w.heap.size w W) => equal_ints aa bb ac bc r.args q.args W (ha.below hW) (hb.below hW) (by omega) (by omega) false (by simp [hne]))
       clear hne hd e1 e2 e3
       go_enter Tryz.func183, Tryz.ntmps183
       go_wp2_with (go_at_call 293; refine (HE.out _ (below2 _ _ _)).mono ?_; rintro e w' ⟨rfl, hd'⟩)
       go_ret
       exact ⟨rfl, (below2 _ _ _).trans (hd'.below _)⟩
     · have c3' : (r.pa.toList == q.pa.toList) = false := bytes_ne e3
       clear hd e1 e2 e3
       go_enter Tryz.func183, Tryz.ntmps183
       go_wp2
       go_ret
       exact ⟨rfl, below2 _ _ _⟩
   · have c2' : (r.op.toList == q.op.toList) = false := bytes_ne e2
     clear hd e1 e2
     go_enter Tryz.func183, Tryz.ntmps183
     go_wp2
     go_ret
     exact ⟨rfl, below2 _ _ _⟩
 · have c1 : ((r.h : Int) == (q.h : Int)) = false := by simp; omega
   clear hd e1
   go_enter Tryz.func183, Tryz.ntmps183
   go_wp2
   go_ret
   exact ⟨rfl, below2 _ _ _⟩
end Go.EvPart
namespace Go.EvPart
open Go Go.Proofs Go.RowKit Go.EvNil
def BoxIs (w : World) (b t : Nat) (v : Array Value) : Prop := w.heap[b]? = some (.cells v t (0, 0))
theorem BoxIs.below {w w' : World} {b t : Nat} {v : Array Value} (h : BoxIs w b t v) (hb : Below w.heap.size w w') : BoxIs w' b t v := by
 unfold BoxIs at *
 rw [hb.block b (heap_lt' h)]; exact h
theorem BoxIs.new (w : World) (t : Nat) (v : Array Value) : BoxIs (w.alloc (.cells v t)) w.heap.size t v := heapNew w _
theorem hasRule1_no (r q : Rl) (aa bb : Option Addr) (ac bc B : Nat) (w : World) (hB : BoxIs w B 76 #[.int .i64 q.h, .string q.op, .string q.pa, .slice bb q.args.length bc]) (ha : ArgsAt w aa r.args) (hb : ArgsAt w bb q.args) (h1 : r.args.length <= 3) (h2 : q.args.length <= 3) (hd : Differ r q) :
   Calls Tryz.prog 182 #[.agg #[.int .i64 r.h, .string r.op, .string r.pa, .slice aa r.args.length ac], .pointer (some ⟨B, 0, none⟩)] w fun e w' => e = .returned (.bool false) /\ Below w.heap.size w w' := by
 have l0 := heap_lt' hB
 have HB1 : ∀ o1, Below w.heap.size w (w.alloc o1) := fun o1 => (Below.refl _ _).alloc (Nat.le_refl _) _
 have c0 := cellOf (i := 0) hB rfl
 have c1 := cellOf (i := 1) hB rfl
 have c2 := cellOf (i := 2) hB rfl
 have c3 := cellOf (i := 3) hB rfl
 have HS := Lib.hid (fun W (hW : Below w.heap.size w W) => sameRule_no r q aa bb ac bc W (ha.below hW) (hb.below hW) h1 h2 hd)
 clear ha hb hd hB
 go_enter Tryz.func182, Tryz.ntmps182
 go_wp2_with (go_at_call 183; refine (HS.out _ (HB1 _)).mono ?_; rintro e w' ⟨rfl, hb'⟩)
 go_ret
 exact ⟨rfl, (HB1 _).trans (hb'.mono (by simp))⟩
theorem indexRule_no (rs : List Rl) (q : Rl) (b o B k c bc : Nat) (bb : Option Addr) (w : World) (hR : RulesAt w (some ⟨b, o, none⟩) rs) (hk : k <= rs.length) (hl : rs.length <= 40) (har : ∀ r ∈ rs, r.args.length <= 3) (hB : BoxIs w B 76 #[.int .i64 q.h, .string q.op, .string q.pa, .slice bb q.args.length bc]) (hb : ArgsAt w bb q.args) (h2 : q.args.length <= 3) (hd : ∀ i (hi : i < rs.length), i < k -> Differ rs[i] q) :
   Calls Tryz.prog 292 #[.slice (some ⟨b, o, none⟩) k c, .func (.func 182) #[] #[.pointer (some ⟨B, 0, none⟩)]] w fun e w' => e = .returned (.int .i64 (-1)) /\ Below w.heap.size w w' := by
 have HR := Lib.hid (fun W (hW : Below w.heap.size w W) => hR.below hW)
 have HB := Lib.hid (fun W (hW : Below w.heap.size w W) => hB.below hW)
 have HA := Lib.hid (fun W (hW : Below w.heap.size w W) => hb.below hW)
 have HD := Lib.hid hd
 have HL := Lib.hid har
 clear hR hB hb hd har
 go_enter Tryz.func292, Tryz.ntmps292
 go_wp2
 go_loopw [5, 8] (fun _ i wr => ∃ j : Nat, j <= k /\ i = .int .i64 j /\ Below w.heap.size w wr) (fun _ i _ => k - (intOf i).toNat)
 case atStart => exact ⟨0, Nat.zero_le _, rfl, Below.refl _ _⟩
 case round =>
   obtain ⟨j, hj, rfl, hbr⟩ := hrel
   by_cases hlt : j < k
   · obtain ⟨b', o', e, hbl, hc⟩ := HR.out wr hbr
     cases e
     obtain ⟨aa, ac, h⟩ := hc j (by omega)
     have c0 := h.c0
     have c1 := h.c1
     have c2 := h.c2
     have c3 := h.c3
     have i1 : (0 : Int) <= (j : Int) := by omega
     have i2 : (j : Int) < (k : Int) := by omega
     have HC := Lib.hid (hasRule1_no rs[j] q aa bb ac bc B wr (HB.out wr hbr) h.args (HA.out wr hbr) (HL.out _ (List.getElem_mem _)) h2 (HD.out j (by omega) hlt))
     clear h hc
     go_wp2_with (go_at_call 182; refine HC.out.mono ?_; rintro e w' ⟨rfl, hb'⟩)
     go_roundw
     case rel => exact ⟨j + 1, by omega, by go_num, hbr.trans (hb'.mono hbr.size)⟩
     case measure => simp [intOf]; omega
   · have i2 : ¬ (j : Int) < (k : Int) := by omega
     go_wp2
     go_ret
     exact ⟨rfl, hbr⟩
theorem hasRule_no (rs : List Rl) (q : Rl) (b o k c bc : Nat) (bb : Option Addr) (w : World) (hR : RulesAt w (some ⟨b, o, none⟩) rs) (hk : k <= rs.length) (hl : rs.length <= 40) (har : ∀ r ∈ rs, r.args.length <= 3) (hb : ArgsAt w bb q.args) (h2 : q.args.length <= 3) (hd : ∀ i (hi : i < rs.length), i < k -> Differ rs[i] q) :
   Calls Tryz.prog 119 #[.slice (some ⟨b, o, none⟩) k c, .agg #[.int .i64 q.h, .string q.op, .string q.pa, .slice bb q.args.length bc]] w fun e w' => e = .returned (.bool false) /\ Below w.heap.size w w' := by
 have HB1 : ∀ o1, Below w.heap.size w (w.alloc o1) := fun o1 => (Below.refl _ _).alloc (Nat.le_refl _) _
 have HI := Lib.hid (indexRule_no rs q b o w.heap.size k c bc bb _ (hR.below (HB1 _)) hk hl har (BoxIs.new w _ _) (hb.below (HB1 _)) h2 hd)
 clear hR hb hd har
 have HC : Hid (Calls Tryz.prog 181 #[.slice (some ⟨b, o, none⟩) k c, .func (.func 182) #[] #[.pointer (some ⟨w.heap.size, 0, none⟩)]] (w.alloc (.cells #[.int .i64 q.h, .string q.op, .string q.pa, .slice bb q.args.length bc] 76)) fun e w' => e = .returned (.bool false) /\ Below (w.alloc (.cells #[.int .i64 q.h, .string q.op, .string q.pa, .slice bb q.args.length bc] 76)).heap.size (w.alloc (.cells #[.int .i64 q.h, .string q.op, .string q.pa, .slice bb q.args.length bc] 76)) w') := by
   refine Lib.hid ?_
   generalize (w.alloc (.cells #[.int .i64 q.h, .string q.op, .string q.pa, .slice bb q.args.length bc] 76)) = w1 at *
   go_enter Tryz.func181, Tryz.ntmps181
   go_wp2_with (go_at_call 292; refine HI.out.mono ?_; rintro e w' ⟨rfl, hb'⟩)
   go_ret
   exact ⟨rfl, hb'⟩
 clear HI
 go_enter Tryz.func119, Tryz.ntmps119
 go_wp2_with (go_at_call 181; refine HC.out.mono ?_; rintro e w' ⟨rfl, hb'⟩)
 go_ret
 exact ⟨rfl, (HB1 _).trans (hb'.mono (by simp))⟩
end Go.EvPart
namespace Go.EvPart
open Go Go.Proofs Go.RowKit Go.EvNil
theorem ColsAt.cell {w : World} {ca : Option Addr} {cs : List (ByteArray × Nat)} (h : ColsAt w ca cs) : ∃ b o, ca = some ⟨b, o, none⟩ /\ b < w.heap.size /\ ∀ i (hi : i < cs.length), w.cell? ⟨b, o + i * 2, none⟩ = some (.string cs[i].1) /\ w.cell? ⟨b, o + i * 2 + 1, none⟩ = some (.int .i64 cs[i].2) := by
 obtain ⟨b, o, arr, fz, e, hb, hc⟩ := h
 refine ⟨b, o, e, heap_lt' hb, fun i hi => ?_⟩
 simp only [World.cell?, hb]
 exact hc i hi
theorem col1_no (nm s : ByteArray) (k : Int) (B : Nat) (w : World) (hB : w.cell? ⟨B, 0, none⟩ = some (.string s)) (hd : nm ≠ s) :
   Calls Tryz.prog 177 #[.agg #[.string nm, .int .i64 k], .pointer (some ⟨B, 0, none⟩)] w fun e w' => e = .returned (.bool false) /\ Below w.heap.size w w' := by
 have l0 := World.block_lt_of_cell? w _ hB
 have HB1 : ∀ o1, Below w.heap.size w (w.alloc o1) := fun o1 => (Below.refl _ _).alloc (Nat.le_refl _) _
 have c := bytes_ne hd
 clear hd
 go_enter Tryz.func177, Tryz.ntmps177
 go_wp2
 go_ret
 exact ⟨rfl, HB1 _⟩
theorem colIndex_no (cs : List (ByteArray × Nat)) (s : ByteArray) (b o B k c : Nat) (w : World) (hR : ColsAt w (some ⟨b, o, none⟩) cs) (hk : k <= cs.length) (hB : w.cell? ⟨B, 0, none⟩ = some (.string s)) (hd : ∀ i (hi : i < cs.length), i < k -> cs[i].1 ≠ s) (hl : cs.length <= 40) :
   Calls Tryz.prog 291 #[.slice (some ⟨b, o, none⟩) k c, .func (.func 177) #[] #[.pointer (some ⟨B, 0, none⟩)]] w fun e w' => e = .returned (.int .i64 (-1)) /\ Below w.heap.size w w' := by
 have l0 := World.block_lt_of_cell? w _ hB
 have HR := Lib.hid (fun W (hW : Below w.heap.size w W) => hR.below hW)
 have HB := Lib.hid (fun W (hW : Below w.heap.size w W) => (hW.cell (p := ⟨B, 0, none⟩) l0).trans hB)
 have HD := Lib.hid hd
 clear hR hB hd
 go_enter Tryz.func291, Tryz.ntmps291
 go_wp2
 go_loopw [5, 8] (fun _ i wr => ∃ j : Nat, j <= k /\ i = .int .i64 j /\ Below w.heap.size w wr) (fun _ i _ => k - (intOf i).toNat)
 case atStart => exact ⟨0, Nat.zero_le _, rfl, Below.refl _ _⟩
 case round =>
   obtain ⟨j, hj, rfl, hbr⟩ := hrel
   by_cases hlt : j < k
   · obtain ⟨b', o', e, hbl, hc⟩ := ColsAt.cell (HR.out wr hbr)
     cases e
     obtain ⟨c0, c1⟩ := hc j (by omega)
     have i1 : (0 : Int) <= (j : Int) := by omega
     have i2 : (j : Int) < (k : Int) := by omega
     have HC := Lib.hid (col1_no cs[j].1 s cs[j].2 B wr (HB.out wr hbr) (HD.out j (by omega) hlt))
     clear hc
     go_wp2_with (go_at_call 177; refine HC.out.mono ?_; rintro e w' ⟨rfl, hb'⟩)
     go_roundw
     case rel => exact ⟨j + 1, by omega, by go_num, hbr.trans (hb'.mono hbr.size)⟩
     case measure => simp [intOf]; omega
   · have i2 : ¬ (j : Int) < (k : Int) := by omega
     go_wp2
     go_ret
     exact ⟨rfl, hbr⟩
theorem sym1_no (nm s : ByteArray) (k : Int) (m : Int) (B : Nat) (w : World) (hB : w.cell? ⟨B, 0, none⟩ = some (.string s)) (hd : nm ≠ s) :
   Calls Tryz.prog 179 #[.agg #[.string nm, .int .i64 k, .int .i64 m], .pointer (some ⟨B, 0, none⟩)] w fun e w' => e = .returned (.bool false) /\ Below w.heap.size w w' := by
 have l0 := World.block_lt_of_cell? w _ hB
 have HB1 : ∀ o1, Below w.heap.size w (w.alloc o1) := fun o1 => (Below.refl _ _).alloc (Nat.le_refl _) _
 have c := bytes_ne hd
 clear hd
 go_enter Tryz.func179, Tryz.ntmps179
 go_wp2
 go_ret
 exact ⟨rfl, HB1 _⟩
theorem symIndex_no (cs : List (ByteArray × Nat)) (M : Nat -> Nat) (s : ByteArray) (b o B k c : Nat) (w : World) (hR : SymsAt w (some ⟨b, o, none⟩) cs M) (hk : k <= cs.length) (hB : w.cell? ⟨B, 0, none⟩ = some (.string s)) (hd : ∀ i (hi : i < cs.length), i < k -> cs[i].1 ≠ s) (hl : cs.length <= 40) :
   Calls Tryz.prog 178 #[.slice (some ⟨b, o, none⟩) k c, .func (.func 179) #[] #[.pointer (some ⟨B, 0, none⟩)]] w fun e w' => e = .returned (.int .i64 (-1)) /\ Below w.heap.size w w' := by
 have l0 := World.block_lt_of_cell? w _ hB
 have HR := Lib.hid (fun W (hW : Below w.heap.size w W) => hR.below hW)
 have HB := Lib.hid (fun W (hW : Below w.heap.size w W) => (hW.cell (p := ⟨B, 0, none⟩) l0).trans hB)
 have HD := Lib.hid hd
 clear hR hB hd
 go_enter Tryz.func178, Tryz.ntmps178
 go_wp2
 go_loopw [5, 8] (fun _ i wr => ∃ j : Nat, j <= k /\ i = .int .i64 j /\ Below w.heap.size w wr) (fun _ i _ => k - (intOf i).toNat)
 case atStart => exact ⟨0, Nat.zero_le _, rfl, Below.refl _ _⟩
 case round =>
   obtain ⟨j, hj, rfl, hbr⟩ := hrel
   by_cases hlt : j < k
   · obtain ⟨b', o', e, hbl, hc⟩ := HR.out wr hbr
     cases e
     obtain ⟨c0, c1, c2⟩ := hc j (by omega)
     have i1 : (0 : Int) <= (j : Int) := by omega
     have i2 : (j : Int) < (k : Int) := by omega
     have HC := Lib.hid (sym1_no cs[j].1 s cs[j].2 (M j) B wr (HB.out wr hbr) (HD.out j (by omega) hlt))
     clear hc
     go_wp2_with (go_at_call 179; refine HC.out.mono ?_; rintro e w' ⟨rfl, hb'⟩)
     go_roundw
     case rel => exact ⟨j + 1, by omega, by go_num, hbr.trans (hb'.mono hbr.size)⟩
     case measure => simp [intOf]; omega
   · have i2 : ¬ (j : Int) < (k : Int) := by omega
     go_wp2
     go_ret
     exact ⟨rfl, hbr⟩
theorem hasColumn_no (cs : List (ByteArray × Nat)) (s : ByteArray) (b o k c : Nat) (w : World) (hR : ColsAt w (some ⟨b, o, none⟩) cs) (hk : k <= cs.length) (hd : ∀ i (hi : i < cs.length), i < k -> cs[i].1 ≠ s) (hl : cs.length <= 40) :
   Calls Tryz.prog 116 #[.slice (some ⟨b, o, none⟩) k c, .string s] w fun e w' => e = .returned (.bool false) /\ Below w.heap.size w w' := by
 have HB1 : ∀ o1, Below w.heap.size w (w.alloc o1) := fun o1 => (Below.refl _ _).alloc (Nat.le_refl _) _
 have HI := Lib.hid (colIndex_no cs s b o w.heap.size k c _ (hR.below (HB1 _)) hk (cellOf (i := 0) (heapNew w (.cells #[.string s] 9)) rfl) hd hl)
 clear hR hd
 have HC : Hid (Calls Tryz.prog 176 #[.slice (some ⟨b, o, none⟩) k c, .func (.func 177) #[] #[.pointer (some ⟨w.heap.size, 0, none⟩)]] (w.alloc (.cells #[.string s] 9)) fun e w' => e = .returned (.bool false) /\ Below (w.alloc (.cells #[.string s] 9)).heap.size (w.alloc (.cells #[.string s] 9)) w') := by
   refine Lib.hid ?_
   generalize (w.alloc (.cells #[.string s] 9)) = w1 at *
   go_enter Tryz.func176, Tryz.ntmps176
   go_wp2_with (go_at_call 291; refine HI.out.mono ?_; rintro e w' ⟨rfl, hb'⟩)
   go_ret
   exact ⟨rfl, hb'⟩
 clear HI
 go_enter Tryz.func116, Tryz.ntmps116
 go_wp2_with (go_at_call 176; refine HC.out.mono ?_; rintro e w' ⟨rfl, hb'⟩)
 go_ret
 exact ⟨rfl, (HB1 _).trans (hb'.mono (by simp))⟩
theorem symbolIndex_no (cs : List (ByteArray × Nat)) (M : Nat -> Nat) (s : ByteArray) (b o k c : Nat) (w : World) (hR : SymsAt w (some ⟨b, o, none⟩) cs M) (hk : k <= cs.length) (hd : ∀ i (hi : i < cs.length), i < k -> cs[i].1 ≠ s) (hl : cs.length <= 40) :
   Calls Tryz.prog 117 #[.slice (some ⟨b, o, none⟩) k c, .string s] w fun e w' => e = .returned (.int .i64 (-1)) /\ Below w.heap.size w w' := by
 have HB1 : ∀ o1, Below w.heap.size w (w.alloc o1) := fun o1 => (Below.refl _ _).alloc (Nat.le_refl _) _
 have HI := Lib.hid (symIndex_no cs M s b o w.heap.size k c _ (hR.below (HB1 _)) hk (cellOf (i := 0) (heapNew w (.cells #[.string s] 9)) rfl) hd hl)
 clear hR hd
 go_enter Tryz.func117, Tryz.ntmps117
 go_wp2_with (go_at_call 178; refine HI.out.mono ?_; rintro e w' ⟨rfl, hb'⟩)
 go_ret
 exact ⟨rfl, (HB1 _).trans (hb'.mono (by simp))⟩
end Go.EvPart
namespace Go.EvPart
open Go Go.Proofs Go.RowKit Go.EvNil
def NoQuote (s : ByteArray) : Prop := s.data.toList.count 39 = 0
structure ParamOk (s : ByteArray) : Prop where
 hi : s.size <= 60
 at' : ∀ k (hk : k < s.size), 32 <= (s[k].toNat : Int) /\ (s[k].toNat : Int) <= 126
 nq : NoQuote s
structure RuleOk (sn : Nat) (r : Rl) : Prop where
 op : NameOk r.op
 pa : ParamOk r.pa
 al : r.args.length <= 3
 args : ∀ a ∈ r.args, a < sn
 h : r.h < sn
theorem rightRule_yes (c0 c1 c2 c4 c5 : Value) (sa aa : Option Addr) (sn sc ac : Nat) (r : Rl) (w : World) (hr : RuleOk sn r) (ha : ArgsAt w aa r.args) :
   Calls Tryz.prog 118 #[.agg #[c0, c1, c2, .slice sa sn sc, c4, c5], .agg #[.int .i64 r.h, .string r.op, .string r.pa, .slice aa r.args.length ac]] w fun e w' => e = .returned (.bool true) /\ Below w.heap.size w w' := by
 obtain ⟨h1, ⟨h2, h3, _⟩, h4, h5, h6⟩ := hr
 have H1 := Lib.hid h1
 have H3 := Lib.hid h3
 have H5 := Lib.hid h5
 have HA := Lib.hid (fun W (hW : Below w.heap.size w W) => ha.below hW)
 have i1 : ¬ (3 : Int) < (r.args.length : Int) := by omega
 have HB2 := below2 w
 clear h1 h3 h5 ha
 have HX : ∀ W, Below (w.heap.size + 2) ((w.alloc (.cells #[c0, c1, c2, .slice sa sn sc, c4, c5] 29)).alloc (.cells #[.int .i64 r.h, .string r.op, .string r.pa, .slice aa r.args.length ac] 76)) W -> BoxIs W w.heap.size 29 #[c0, c1, c2, .slice sa sn sc, c4, c5] /\ BoxIs W (w.heap.size + 1) 76 #[.int .i64 r.h, .string r.op, .string r.pa, .slice aa r.args.length ac] /\ Below w.heap.size w W := fun W hW => by
   refine ⟨?_, ?_, (HB2 _ _).trans (hW.mono (by omega))⟩
   · unfold BoxIs; rw [hW.block _ (by omega), heapOld _ _ (by simp)]; exact heapNew _ _
   · unfold BoxIs; rw [hW.block _ (by omega)]
     have := heapNew (w.alloc (.cells #[c0, c1, c2, .slice sa sn sc, c4, c5] 29)) (.cells #[.int .i64 r.h, .string r.op, .string r.pa, .slice aa r.args.length ac] 76)
     rw [sizeNew] at this
     exact this
 have HX := Lib.hid HX
 go_enter Tryz.func118, Tryz.ntmps118
 go_wp2_with (first
   | (go_at_call 115; (with_reducible refine (isName_yes r.op _ H1.out).mono ?_); rintro e w' ⟨rfl, rfl⟩)
   | (go_at_call 180; (with_reducible refine (isParameter_yes r.pa _ h2 H3.out).mono ?_); rintro e w' ⟨rfl, rfl⟩))
 have HB0 := Below.refl (w.heap.size + 2) ((w.alloc (.cells #[c0, c1, c2, .slice sa sn sc, c4, c5] 29)).alloc (.cells #[.int .i64 r.h, .string r.op, .string r.pa, .slice aa r.args.length ac] 76))
 go_loopw [6, 26] (fun _ i wr => ∃ j : Nat, j <= r.args.length /\ i = .int .i64 j /\ Below (w.heap.size + 2) ((w.alloc (.cells #[c0, c1, c2, .slice sa sn sc, c4, c5] 29)).alloc (.cells #[.int .i64 r.h, .string r.op, .string r.pa, .slice aa r.args.length ac] 76)) wr) (fun _ i _ => r.args.length - (intOf i).toNat)
 case atStart => exact ⟨0, Nat.zero_le _, rfl, HB0⟩
 case round =>
   clear HB0
   obtain ⟨j, hj, rfl, hbr⟩ := hrel
   obtain ⟨hg, hq, hb⟩ := HX.out wr hbr
   have l1 := heap_lt' hg
   have l2 := heap_lt' hq
   have g0 := cellOf (i := 0) hg rfl
   have g1 := cellOf (i := 1) hg rfl
   have g2 := cellOf (i := 2) hg rfl
   have g3 := cellOf (i := 3) hg rfl
   have g4 := cellOf (i := 4) hg rfl
   have g5 := cellOf (i := 5) hg rfl
   have q0 := cellOf (i := 0) hq rfl
   clear hg hq
   have hsz := hbr.size
   simp only [sizeNew] at hsz
   by_cases hlt : j < r.args.length
   · obtain ⟨b, o, rfl, hbl, hc⟩ := HA.out wr hb (by omega)
     have hcx := hc j hlt
     have i2 : (0 : Int) <= (j : Int) := by omega
     have i3 : (j : Int) < (r.args.length : Int) := by omega
     have HS := Lib.hid (fun W => isSymbol_yes c0 c1 c2 c4 c5 sa sn sc r.args[j] W (H5.out _ (List.getElem_mem hlt)))
     clear hc
     go_wp2_with (go_at_call 120; refine (HS.out _).mono ?_; rintro e w' ⟨rfl, hb'⟩)
     go_roundw
     case rel => exact ⟨j + 1, by omega, by go_num, hbr.trans (hb'.mono (by omega))⟩
     case measure => simp [intOf]; omega
   · have i3 : ¬ (j : Int) < (r.args.length : Int) := by omega
     have HS := Lib.hid (fun W => isSymbol_yes c0 c1 c2 c4 c5 sa sn sc r.h W h6)
     go_wp2_with (go_at_call 120; refine (HS.out _).mono ?_; rintro e w' ⟨rfl, hb'⟩)
     go_ret
     exact ⟨rfl, hb.trans (hb'.mono hb.size)⟩
end Go.EvPart
namespace Go.EvPart
open Go Go.Proofs Go.RowKit Go.EvNil
theorem kn_ne {s : ByteArray} (h : 4 <= s.size) : (s.toList == []) = false := by
 rw [beq_eq_false_iff_ne, ByteArray.toList_eq]
 intro e
 have : s.data.toList.length = 0 := by rw [e]; rfl
 have h2 : s.data.toList.length = s.size := Array.length_toList
 omega
structure SNice (S : Sample) : Prop where
 ver : S.ver < 100
 nm : NameOk S.nm
 cols : ∀ c ∈ S.cols, NameOk c.1 /\ 1 <= c.2 /\ c.2 <= 5
 cdis : ∀ i j (hi : i < S.cols.length) (hj : j < S.cols.length), i < j -> S.cols[i].1 ≠ S.cols[j].1
 syms : ∀ c ∈ S.syms, NameOk c.1 /\ 1 <= c.2 /\ c.2 <= 5
 sdis : ∀ i j (hi : i < S.syms.length) (hj : j < S.syms.length), i < j -> S.syms[i].1 ≠ S.syms[j].1
 rules : ∀ r ∈ S.rules, RuleOk S.syms.length r
 rdis : S.rules.Pairwise Differ
structure GB (w : World) (G : Array Value) (wr : World) : Prop where
 b : Below w.heap.size w wr
 g : BoxIs wr w.heap.size 29 G
theorem GB.below {w wr w' : World} {G : Array Value} (h : GB w G wr) (hb : Below wr.heap.size wr w') : GB w G w' :=
 ⟨h.b.trans (hb.mono h.b.size), h.g.below hb⟩
theorem GB.new (w : World) (G : Array Value) : GB w G (w.alloc (.cells G 29)) := ⟨(Below.refl _ _).alloc (Nat.le_refl _) _, BoxIs.new _ _ _⟩
theorem right_yes (S : Sample) (hS : SOk S) (hN : SNice S) (w : World) (M : Nat -> Nat) (hM : ∀ i, 1 <= M i /\ M i <= 5) (rs : List Rl) (hsub : rs.Sublist S.rules) (ca sa ra : Option Addr) (cc sc rc : Nat) (hC : ColsAt w ca S.cols) (hY : SymsAt w sa S.syms M) (hR : RulesAt w ra rs) (k1 : S.cols.length <= cc) (k2 : S.syms.length <= sc) (k3 : rs.length <= rc) :
   Calls Tryz.prog 55 #[.agg #[.string S.nm, .int .i64 S.ver, .slice ca S.cols.length cc, .slice sa S.syms.length sc, .slice ra rs.length rc, .int .i64 S.st]] w fun e w' => e = .returned (.bool true) /\ Below w.heap.size w w' := by
 obtain ⟨_, n1, n2, n3, n4, n5, n6, n7⟩ := hN
 have N1 := Lib.hid n1
 have N2 := Lib.hid n2
 have N3 := Lib.hid n3
 have N4 := Lib.hid n4
 have N5 := Lib.hid n5
 have N6 := Lib.hid (fun r (hr : r ∈ rs) => n6 r (hsub.subset hr))
 have N7 := Lib.hid (List.pairwise_iff_getElem.1 (n7.sublist hsub))
 have hver := hS.ver
 have hcn := hS.cols
 have hsn0 := hS.syms0
 have hsn := hS.syms
 have hrn : rs.length <= 40 := Nat.le_trans hsub.length_le hS.rules
 have hst := hS.st
 have HC := Lib.hid (fun W (hW : Below w.heap.size w W) => hC.below hW)
 have HY := Lib.hid (fun W (hW : Below w.heap.size w W) => hY.below hW)
 have HR := Lib.hid (fun W (hW : Below w.heap.size w W) => hR.below hW)
 have HM := Lib.hid hM
 clear n1 n2 n3 n4 n5 n6 n7 hS hC hY hR hM hsub
 have i1 : ¬ (S.ver : Int) < 0 := by omega
 have i2 : ¬ (1000000000 : Int) < (S.ver : Int) := by omega
 have i3 : ¬ (8 : Int) < (S.cols.length : Int) := by omega
 have i4 : ¬ (S.syms.length : Int) < 1 := by omega
 have i5 : ¬ (12 : Int) < (S.syms.length : Int) := by omega
 have i6 : ¬ (40 : Int) < (rs.length : Int) := by omega
 have HG0 := GB.new w #[.string S.nm, .int .i64 S.ver, .slice ca S.cols.length cc, .slice sa S.syms.length sc, .slice ra rs.length rc, .int .i64 S.st]
 go_enter Tryz.func55, Tryz.ntmps55
 go_wp2_with (go_at_call 115; (with_reducible refine (isName_yes _ _ N1.out).mono ?_); rintro e w' ⟨rfl, rfl⟩)
 go_loopw [3, 4, 48] (fun _ _ i wr => ∃ j : Nat, j <= S.cols.length /\ i = .int .i64 j /\ GB w #[.string S.nm, .int .i64 S.ver, .slice ca S.cols.length cc, .slice sa S.syms.length sc, .slice ra rs.length rc, .int .i64 S.st] wr) (fun _ _ i _ => S.cols.length - (intOf i).toNat)
 case atStart => exact ⟨0, Nat.zero_le _, rfl, HG0⟩
 case round =>
   clear HG0 i1 i2 i3 i4 i5 i6
   obtain ⟨j, hj, rfl, hg⟩ := hrel
   have g2 := cellOf (i := 2) hg.g rfl
   have lg := heap_lt' hg.g
   by_cases hlt : j < S.cols.length
   · obtain ⟨b, o, rfl, hbl, hc⟩ := ColsAt.cell (HC.out _ hg.b)
     obtain ⟨c0, c1⟩ := hc j hlt
     have i2 : (0 : Int) <= (j : Int) := by omega
     have i3 : (j : Int) < (S.cols.length : Int) := by omega
     clear hc
     go_upto_region 8 with fail
     have HG2 := hg.below ((Below.refl wr.heap.size wr).alloc (Nat.le_refl _) (.cells #[.string S.cols[j].1, .int .i64 S.cols[j].2] 131))
     have HX := BoxIs.new wr 131 #[.string S.cols[j].1, .int .i64 S.cols[j].2]
     have hrl : Below wr.heap.size wr (wr.alloc (.cells #[.string S.cols[j].1, .int .i64 S.cols[j].2] 131)) := (Below.refl _ _).alloc (Nat.le_refl _) _
     clear c0 c1 g2
     generalize wr.alloc (.cells #[.string S.cols[j].1, .int .i64 S.cols[j].2] 131) = w2 at *
     generalize wr.heap.size = xb at *
     have x0 := cellOf (i := 0) HX rfl
     have x1 := cellOf (i := 1) HX rfl
     have g2 := cellOf (i := 2) HG2.g rfl
     have l2 := heap_lt' HG2.g
     have l3 := heap_lt' HX
     have i4 : (j : Int) <= (cc : Int) := by omega
     have HD := Lib.hid (hasColumn_no S.cols S.cols[j].1 b o j cc w2.drew ((HC.out _ HG2.b).below ((Below.refl _ _).drew)) (by omega) (fun i hi hij => N3.out i j hi hlt hij) (by omega))
     obtain ⟨m1, m2, m3⟩ := N2.out _ (List.getElem_mem hlt)
     have M1 := Lib.hid m1
     clear m1
     go_region_held3 (fun W => W.cell? ⟨xb, 0, none⟩ = some (.string S.cols[j].1) /\ W.cell? ⟨xb, 1, none⟩ = some (.int .i64 S.cols[j].2) /\ W.cell? ⟨w.heap.size, 2, none⟩ = some (.slice (some ⟨b, o, none⟩) S.cols.length cc)) (first | exact ⟨x0, x1, g2⟩ | exact ⟨y0, y1, y2⟩ | go_keep) (first | (go_at_call 115; (with_reducible refine (isName_yes _ _ M1.out).mono ?_); rintro e w' ⟨rfl, rfl⟩) | (go_at_call 59; (with_reducible refine (kindName_yes _ _ m2 m3).mono ?_); rintro e w' ⟨⟨kn, rfl, kn1, kn2⟩, rfl⟩; have kn3 : (kn.toList == []) = false := kn_ne kn1) | (go_at_call 116; (with_reducible refine HD.out.mono ?_); rintro e w' ⟨rfl, hb'⟩; have HG3 := HG2.below (((Below.refl _ _).drew).trans hb'); have HX3 := HX.below (((Below.refl _ _).drew).trans hb'); have y0 := cellOf (i := 0) HX3 rfl; have y1 := cellOf (i := 1) HX3 rfl; have y2 := cellOf (i := 2) HG3.g rfl))
     go_wp2
     go_roundw
     case rel => first | exact ⟨j + 1, by omega, by go_num, HG3⟩ | ((repeat apply Exists.intro); refine ⟨?_, rfl⟩; exact ⟨j + 1, by omega, by go_num, HG3⟩)
     case measure => simp [intOf]; omega
   · have i3 : ¬ (j : Int) < (S.cols.length : Int) := by omega
     have g3 := cellOf (i := 3) hg.g rfl
     clear g2
     go_wp2
     go_loopw [5, 6, 76] (fun _ _ i wr => ∃ j : Nat, j <= S.syms.length /\ i = .int .i64 j /\ GB w #[.string S.nm, .int .i64 S.ver, .slice ca S.cols.length cc, .slice sa S.syms.length sc, .slice ra rs.length rc, .int .i64 S.st] wr) (fun _ _ i _ => S.syms.length - (intOf i).toNat)
     case atStart => exact ⟨0, Nat.zero_le _, rfl, hg⟩
     case round =>
       clear hg g3 lg hlt hj i3
       obtain ⟨j, hj, rfl, hg⟩ := hrel
       have g3 := cellOf (i := 3) hg.g rfl
       have lg := heap_lt' hg.g
       by_cases hlt : j < S.syms.length
       · obtain ⟨b, o, rfl, hbl, hc⟩ := HY.out _ hg.b
         obtain ⟨c0, c1, c2⟩ := hc j hlt
         have i2 : (0 : Int) <= (j : Int) := by omega
         have i3 : (j : Int) < (S.syms.length : Int) := by omega
         clear hc
         go_upto_region 14 with fail
         have HG2 := hg.below ((Below.refl wr.heap.size wr).alloc (Nat.le_refl _) (.cells #[.string S.syms[j].1, .int .i64 S.syms[j].2, .int .i64 (M j)] 56))
         have HX := BoxIs.new wr 56 #[.string S.syms[j].1, .int .i64 S.syms[j].2, .int .i64 (M j)]
         clear c0 c1 c2 g3
         generalize wr.alloc (.cells #[.string S.syms[j].1, .int .i64 S.syms[j].2, .int .i64 (M j)] 56) = w2 at *
         generalize wr.heap.size = xb at *
         have x0 := cellOf (i := 0) HX rfl
         have x1 := cellOf (i := 1) HX rfl
         have x2 := cellOf (i := 2) HX rfl
         have g3 := cellOf (i := 3) HG2.g rfl
         have l2 := heap_lt' HG2.g
         have l3 := heap_lt' HX
         have i4 : (j : Int) <= (sc : Int) := by omega
         have HD := Lib.hid (symbolIndex_no S.syms M S.syms[j].1 b o j sc w2.drew ((HY.out _ HG2.b).below ((Below.refl _ _).drew)) (by omega) (fun i hi hij => N5.out i j hi hlt hij) (by omega))
         obtain ⟨m1, m2, m3⟩ := N4.out _ (List.getElem_mem hlt)
         have M1 := Lib.hid m1
         have mm := HM.out j
         have i5 : decide ((M j : Int) < 1) = false := by simp; omega
         have i6 : decide ((9 : Int) < (M j : Int)) = false := by simp; omega
         clear m1
         go_region_held3 (fun W => W.cell? ⟨xb, 0, none⟩ = some (.string S.syms[j].1) /\ W.cell? ⟨xb, 1, none⟩ = some (.int .i64 S.syms[j].2) /\ W.cell? ⟨xb, 2, none⟩ = some (.int .i64 (M j)) /\ W.cell? ⟨w.heap.size, 3, none⟩ = some (.slice (some ⟨b, o, none⟩) S.syms.length sc)) (first | exact ⟨x0, x1, x2, g3⟩ | exact ⟨y0, y1, y2, y3⟩ | go_keep) (first | (go_at_call 115; (with_reducible refine (isName_yes _ _ M1.out).mono ?_); rintro e w' ⟨rfl, rfl⟩) | (go_at_call 59; (with_reducible refine (kindName_yes _ _ m2 m3).mono ?_); rintro e w' ⟨⟨kn, rfl, kn1, kn2⟩, rfl⟩; have kn3 : (kn.toList == []) = false := kn_ne kn1) | (go_at_call 117; (with_reducible refine HD.out.mono ?_); rintro e w' ⟨rfl, hb'⟩; have HG3 := HG2.below (((Below.refl _ _).drew).trans hb'); have HX3 := HX.below (((Below.refl _ _).drew).trans hb'); have y0 := cellOf (i := 0) HX3 rfl; have y1 := cellOf (i := 1) HX3 rfl; have y2 := cellOf (i := 2) HX3 rfl; have y3 := cellOf (i := 3) HG3.g rfl))
         go_wp2
         go_roundw
         case rel => first | exact ⟨j + 1, by omega, by go_num, HG3⟩ | ((repeat apply Exists.intro); refine ⟨?_, rfl⟩; exact ⟨j + 1, by omega, by go_num, HG3⟩)
         case measure => simp [intOf]; omega
       · have i3 : ¬ (j : Int) < (S.syms.length : Int) := by omega
         have g4 := cellOf (i := 4) hg.g rfl
         clear g3
         go_wp2
         go_loopw [7, 8, 115] (fun _ _ i wr => ∃ j : Nat, j <= rs.length /\ i = .int .i64 j /\ GB w #[.string S.nm, .int .i64 S.ver, .slice ca S.cols.length cc, .slice sa S.syms.length sc, .slice ra rs.length rc, .int .i64 S.st] wr) (fun _ _ i _ => rs.length - (intOf i).toNat)
         case atStart => exact ⟨0, Nat.zero_le _, rfl, hg⟩
         case round =>
           clear hg g4 lg hlt hj i3
           obtain ⟨j, hj, rfl, hg⟩ := hrel
           have g0 := cellOf (i := 0) hg.g rfl
           have g1 := cellOf (i := 1) hg.g rfl
           have g2 := cellOf (i := 2) hg.g rfl
           have g3 := cellOf (i := 3) hg.g rfl
           have g4 := cellOf (i := 4) hg.g rfl
           have g5 := cellOf (i := 5) hg.g rfl
           have lg := heap_lt' hg.g
           by_cases hlt : j < rs.length
           · obtain ⟨b, o, rfl, hbl, hc⟩ := HR.out _ hg.b
             obtain ⟨aa, ac, h⟩ := hc j hlt
             have c0 := h.c0
             have c1 := h.c1
             have c2 := h.c2
             have c3 := h.c3
             have HA := Lib.hid h.args
             have i2 : (0 : Int) <= (j : Int) := by omega
             have i3 : (j : Int) < (rs.length : Int) := by omega
             clear hc h
             go_upto_region 20 with fail
             have hba := (Below.refl wr.heap.size wr).alloc (Nat.le_refl _) (.cells #[.int .i64 rs[j].h, .string rs[j].op, .string rs[j].pa, .slice aa rs[j].args.length ac] 76)
             have HG2 := hg.below hba
             have HA2 := Lib.hid (HA.out.below hba)
             have HX := BoxIs.new wr 76 #[.int .i64 rs[j].h, .string rs[j].op, .string rs[j].pa, .slice aa rs[j].args.length ac]
             clear c0 c1 c2 c3 g0 g1 g2 g3 g4 g5 hba HA
             generalize wr.alloc (.cells #[.int .i64 rs[j].h, .string rs[j].op, .string rs[j].pa, .slice aa rs[j].args.length ac] 76) = w2 at *
             generalize wr.heap.size = xb at *
             have x0 := cellOf (i := 0) HX rfl
             have x1 := cellOf (i := 1) HX rfl
             have x2 := cellOf (i := 2) HX rfl
             have x3 := cellOf (i := 3) HX rfl
             have g0 := cellOf (i := 0) HG2.g rfl
             have g1 := cellOf (i := 1) HG2.g rfl
             have g2 := cellOf (i := 2) HG2.g rfl
             have g3 := cellOf (i := 3) HG2.g rfl
             have g4 := cellOf (i := 4) HG2.g rfl
             have g5 := cellOf (i := 5) HG2.g rfl
             have l2 := heap_lt' HG2.g
             have l3 := heap_lt' HX
             have i4 : (j : Int) <= (rc : Int) := by omega
             have HRR := Lib.hid (rightRule_yes (.string S.nm) (.int .i64 S.ver) (.slice ca S.cols.length cc) (.slice (some ⟨b, o, none⟩) rs.length rc) (.int .i64 S.st) sa aa S.syms.length sc ac rs[j] w2.drew (N6.out _ (List.getElem_mem hlt)) (HA2.out.below ((Below.refl _ _).drew)))
             have HD := Lib.hid (fun W (hW : Below w2.heap.size w2 W) => hasRule_no rs rs[j] b o j rc ac aa W (HR.out _ (HG2.below hW).b) (by omega) hrn (fun r hr => (N6.out r hr).al) (HA2.out.below hW) (N6.out _ (List.getElem_mem hlt)).al (fun i hi hij => N7.out i j hi hlt hij))
             go_region_held3 (fun W => W.cell? ⟨xb, 0, none⟩ = some (.int .i64 rs[j].h) /\ W.cell? ⟨xb, 1, none⟩ = some (.string rs[j].op) /\ W.cell? ⟨xb, 2, none⟩ = some (.string rs[j].pa) /\ W.cell? ⟨xb, 3, none⟩ = some (.slice aa rs[j].args.length ac) /\ W.cell? ⟨w.heap.size, 0, none⟩ = some (.string S.nm) /\ W.cell? ⟨w.heap.size, 1, none⟩ = some (.int .i64 S.ver) /\ W.cell? ⟨w.heap.size, 2, none⟩ = some (.slice ca S.cols.length cc) /\ W.cell? ⟨w.heap.size, 3, none⟩ = some (.slice sa S.syms.length sc) /\ W.cell? ⟨w.heap.size, 4, none⟩ = some (.slice (some ⟨b, o, none⟩) rs.length rc) /\ W.cell? ⟨w.heap.size, 5, none⟩ = some (.int .i64 S.st)) (first | exact ⟨x0, x1, x2, x3, g0, g1, g2, g3, g4, g5⟩ | exact ⟨z0, z1, z2, z3, k0, k1, k2, k3, k4, k5⟩ | exact ⟨y0, y1, y2, y3, h0, h1, h2, h3, h4, h5⟩ | go_keep) (first | (go_at_call 119; (with_reducible refine (HD.out _ hb4).mono ?_); rintro e w5 ⟨rfl, hb5⟩; have hb6 := hb4.trans (hb5.mono hb4.size); have HG4 := HG2.below hb6; have HX4 := HX.below hb6; have z0 := cellOf (i := 0) HX4 rfl; have z1 := cellOf (i := 1) HX4 rfl; have z2 := cellOf (i := 2) HX4 rfl; have z3 := cellOf (i := 3) HX4 rfl; have k0 := cellOf (i := 0) HG4.g rfl; have k1 := cellOf (i := 1) HG4.g rfl; have k2 := cellOf (i := 2) HG4.g rfl; have k3 := cellOf (i := 3) HG4.g rfl; have k4 := cellOf (i := 4) HG4.g rfl; have k5 := cellOf (i := 5) HG4.g rfl) | (go_at_call 118; (with_reducible refine HRR.out.mono ?_); rintro e w4 ⟨rfl, hb'⟩; have hb4 := ((Below.refl w2.heap.size w2).drew).trans hb'; have HG3 := HG2.below hb4; have HX3 := HX.below hb4; have y0 := cellOf (i := 0) HX3 rfl; have y1 := cellOf (i := 1) HX3 rfl; have y2 := cellOf (i := 2) HX3 rfl; have y3 := cellOf (i := 3) HX3 rfl; have h0 := cellOf (i := 0) HG3.g rfl; have h1 := cellOf (i := 1) HG3.g rfl; have h2 := cellOf (i := 2) HG3.g rfl; have h3 := cellOf (i := 3) HG3.g rfl; have h4 := cellOf (i := 4) HG3.g rfl; have h5 := cellOf (i := 5) HG3.g rfl))
             go_wp2
             go_roundw
             case rel => first | exact ⟨j + 1, by omega, by go_num, HG4⟩ | ((repeat apply Exists.intro); refine ⟨?_, rfl⟩; exact ⟨j + 1, by omega, by go_num, HG4⟩)
             case measure => simp [intOf]; omega
           · have i3 : ¬ (j : Int) < (rs.length : Int) := by omega
             have HS := Lib.hid (fun W => isSymbol_yes (.string S.nm) (.int .i64 S.ver) (.slice ca S.cols.length cc) (.slice ra rs.length rc) (.int .i64 S.st) sa S.syms.length sc S.st W hst)
             go_wp2_with (go_at_call 120; refine (HS.out _).mono ?_; rintro e w' ⟨rfl, hb'⟩)
             go_ret
             exact ⟨rfl, hg.b.trans (hb'.mono hg.b.size)⟩
end Go.EvPart
