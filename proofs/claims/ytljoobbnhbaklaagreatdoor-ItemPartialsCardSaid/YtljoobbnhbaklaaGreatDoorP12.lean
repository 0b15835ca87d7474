/- ItemPartials, one part of the proof: PartY1, PartY2, PartY3, PartA, PartLayP. -/
import Derived.Test.YtljoobbnhbaklaaGreatDoorP01
import Derived.Test.YtljoobbnhbaklaaGreatDoorP11
import Derived.StillTailTactics
import Derived.Test.YtljoobbnhbaklaaGreatDoorP00
import Derived.Shelf.Strings.Builder1
import Derived.Shelf.Strings.OnBuilder
import Derived.Shelf.Strings.BuilderK
import Derived.Shelf.Strings.Count
import Derived.Shelf.Strconv.Itoa0
import Derived.Shelf.Strconv.Itoa1
import Derived.Shelf.LaysM
import Derived.Shelf.Strconv.Itoa2
import Derived.Shelf.Strconv.Itoa3
import Derived.Test.YtljoobbnhbaklaaGreatDoorProg
set_option linter.all false
set_option maxRecDepth 100000
set_option maxHeartbeats 16000000
namespace Go.EvPart.N
open Go Go.Proofs Go.RowKit Go.EvNil
theorem name_yes (s : ByteArray) (w : World) (h : NameOk s) : Calls Tryz.prog 95 #[.string s] w fun e w' => e = .returned (.bool true) /\ w = w' := by
 have h1 := h.lo
 have h2 := h.hi
 have H := Lib.hid h.at'
 clear h
 have i1 : ¬ (s.size : Int) < 1 := by omega
 have i2 : ¬ (20 : Int) < (s.size : Int) := by omega
 have i3 : (1 : Int) <= (s.size : Int) := by omega
 have i4 : (s.size : Int) <= 20 := by omega
 go_enter Tryz.func95, Tryz.ntmps95
 go_wp2
 go_loop [3] (fun i => ∃ k : Nat, k <= s.size /\ i = .int .i64 k) (fun i => s.size - (intOf i).toNat)
 case atStart => exact ⟨0, Nat.zero_le _, rfl⟩
 case round =>
   obtain ⟨k, hk, rfl⟩ := hrel
   by_cases hlt : k < s.size
   · have hc := H.out k hlt
     have j0 : (k : Int) < (s.size : Int) := by omega
     rcases hc with ⟨a, b⟩ | ⟨a, b⟩ | ⟨z, a | ⟨a, b⟩⟩
     · go_wp2
       all_goals first
         | (go_round
            case rel => exact ⟨k + 1, by omega, by go_num⟩
            case measure => simp [intOf]; omega)
         | (exfalso; omega)
     · have c : ¬ 97 <= (s[k].toNat : Int) := by omega
       go_wp2
       all_goals first
         | (go_round
            case rel => exact ⟨k + 1, by omega, by go_num⟩
            case measure => simp [intOf]; omega)
         | (exfalso; omega)
     · have c1 : decide (97 <= (s[k].toNat : Int)) = false := by rw [a]; rfl
       have c2 : decide ((s[k].toNat : Int) <= 90) = false := by rw [a]; rfl
       have c3 : ((k : Int) == 0) = false := by simp; omega
       have c4 : ((s[k].toNat : Int) != 95) = false := by rw [a]; rfl
       clear a
       go_wp2
       all_goals first
         | (go_round
            case rel => exact ⟨k + 1, by omega, by go_num⟩
            case measure => simp [intOf]; omega)
         | (exfalso; omega)
     · have c1 : ¬ 97 <= (s[k].toNat : Int) := by omega
       have c2 : ¬ 65 <= (s[k].toNat : Int) := by omega
       have c3 : ((k : Int) == 0) = false := by simp; omega
       have c4 : ((s[k].toNat : Int) != 95) = true := by simp; omega
       have c5 : ¬ (s[k].toNat : Int) < 48 := by omega
       have c6 : ¬ 57 < (s[k].toNat : Int) := by omega
       go_wp2
       all_goals first
         | (go_round
            case rel => exact ⟨k + 1, by omega, by go_num⟩
            case measure => simp [intOf]; omega)
         | (exfalso; omega)
   · have j0 : ¬ (k : Int) < (s.size : Int) := by omega
     go_wp2
     go_ret
     exact ⟨rfl, rfl⟩
theorem param_yes (s : ByteArray) (w : World) (h1 : s.size <= 60) (h2 : ∀ k (hk : k < s.size), 32 <= (s[k].toNat : Int) /\ (s[k].toNat : Int) <= 126) : Calls Tryz.prog 150 #[.string s] w fun e w' => e = .returned (.bool true) /\ w = w' := by
 have H := Lib.hid h2
 clear h2
 have i2 : ¬ (60 : Int) < (s.size : Int) := by omega
 go_enter Tryz.func150, Tryz.ntmps150
 go_wp2
 go_loop [3] (fun i => ∃ k : Nat, k <= s.size /\ i = .int .i64 k) (fun i => s.size - (intOf i).toNat)
 case atStart => exact ⟨0, Nat.zero_le _, rfl⟩
 case round =>
   obtain ⟨k, hk, rfl⟩ := hrel
   by_cases hlt : k < s.size
   · obtain ⟨a, b⟩ := H.out k hlt
     have j0 : (k : Int) < (s.size : Int) := by omega
     have c1 : ¬ (s[k].toNat : Int) < 32 := by omega
     have c2 : ¬ 126 < (s[k].toNat : Int) := by omega
     go_wp2
     all_goals first
       | (go_round
          case rel => exact ⟨k + 1, by omega, by go_num⟩
          case measure => simp [intOf]; omega)
       | (exfalso; omega)
   · have j0 : ¬ (k : Int) < (s.size : Int) := by omega
     go_wp2
     go_ret
     exact ⟨rfl, rfl⟩
def KindN (e : Ending) : Prop := ∃ s : ByteArray, e = .returned (.string s) /\ (s.toList == [32]) = false
theorem kindName_yes (k : Nat) (w : World) (h1 : 1 <= k) (h2 : k <= 5) : Calls Tryz.prog 96 #[.int .i64 k] w fun e w' => KindN e /\ Below w.heap.size w w' := by
 have : k = 1 ∨ k = 2 ∨ k = 3 ∨ k = 4 ∨ k = 5 := by omega
 rcases this with rfl | rfl | rfl | rfl | rfl
 all_goals
   go_enter Tryz.func96, Tryz.ntmps96
   go_wp2_with (go_at_call 148; refine (kinds_any _).mono ?_; rintro e w' ⟨rfl, rfl⟩)
   go_ret
   exact ⟨⟨_, rfl, by rw [ByteArray.toList_eq]; decide⟩, (Below.refl _ _).alloc (Nat.le_refl _) _⟩
theorem name_no_blank {s : ByteArray} (h : NameOk s) : (s.toList == [32]) = false := by
 rw [beq_eq_false_iff_ne, ByteArray.toList_eq]
 intro e
 have h1 := h.lo
 have h2 : s.data.toList.length = s.size := Array.length_toList
 have h3 := h.at' 0 (by omega)
 have h4 : s.data.toList[0]? = some s[0] := by
   rw [List.getElem?_eq_getElem (by omega)]; rfl
 rw [e] at h4
 have h5 : (s[0]'(by omega)) = 32 := by simpa using h4.symm
 rw [h5] at h3
 simp at h3
def SymN (e : Ending) : Prop := ∃ s : ByteArray, e = .returned (.string s) /\ (s.toList == [32]) = false
theorem symbolName_yes (nm ver cs rs st : Value) (sa : Option Addr) (ss : List (ByteArray × Nat)) (M : Nat -> Nat) (sc i : Nat) (w : World) (hY : SymsAt w sa ss M) (hN : ∀ c ∈ ss, NameOk c.1) (hi : i < ss.length) (h12 : ss.length <= 12) :
   Calls Tryz.prog 152 #[.agg #[nm, ver, cs, .slice sa ss.length sc, rs, st], .int .i64 i] w fun e w' => SymN e /\ Below w.heap.size w w' := by
 obtain ⟨b, o, rfl, hb, hc⟩ := hY
 obtain ⟨c0, _, _⟩ := hc i hi
 have hbl := name_no_blank (hN _ (List.getElem_mem hi))
 have hi1 : (i : Int) < (ss.length : Int) := by omega
 have hi0 : (0 : Int) <= (i : Int) := by omega
 have hi2 : ¬ (ss.length : Int) <= (i : Int) := by omega
 have hi3 : ¬ (i : Int) < 0 := by omega
 clear hN
 go_enter Tryz.func152, Tryz.ntmps152
 go_wp2
 go_ret
 exact ⟨⟨_, rfl, hbl⟩, (Below.refl _ _).alloc (Nat.le_refl _) _⟩
theorem ints_no (a b : Option Addr) (c d : Nat) (l m : List Nat) (w : World) (ha : ArgsAt w a l) (hb : ArgsAt w b m) (h1 : l.length <= 1000) (h2 : m.length <= 1000) (hne : l ≠ m) : Calls Tryz.prog 218 #[.slice a l.length c, .slice b m.length d] w fun e w' => e = .returned (.bool false) /\ Drawn w w' := by
 by_cases hmn : l.length = m.length
 · have he : ((l.length : Int) != (m.length : Int)) = false := by simp [hmn]
   go_enter Tryz.func218, Tryz.ntmps218
   go_wp2
   go_loopw [5] (fun i wr => ∃ k : Nat, k <= l.length /\ i = .int .i64 k /\ Drawn w wr /\ Same l m k) (fun i _ => l.length - (intOf i).toNat)
   case atStart => exact ⟨0, Nat.zero_le _, rfl, ⟨0, rfl⟩, fun j hj => absurd hj (Nat.not_lt_zero _)⟩
   case round =>
     obtain ⟨k, hk, rfl, ⟨q, rfl⟩, hS⟩ := hrel
     have HS := Lib.hid hS
     clear hS
     by_cases hlt : k < l.length
     · obtain ⟨b1, o1, rfl, hb1, hc1⟩ := ha (by omega)
       obtain ⟨b2, o2, rfl, hb2, hc2⟩ := hb (by omega)
       have hx := hc1 k hlt
       have hy := hc2 k (by omega)
       obtain ⟨y, hye⟩ : ∃ y, m[k]'(by omega) = y := ⟨_, rfl⟩
       rw [hye] at hy
       have i1 : (0 : Int) <= (k : Int) := by omega
       have i2 : (k : Int) < (l.length : Int) := by omega
       have i3 : (k : Int) < (m.length : Int) := by omega
       have HE := Lib.hid hmn
       clear hc1 hc2 ha hb
       by_cases hxy : l[k] = y
       · have e1 : ((l[k] : Int) != (y : Int)) = false := by simp [hxy]
         have HS2 := Lib.hid (HS.out.snoc hlt (by omega) (hxy.trans hye.symm))
         clear hxy hmn he hye
         go_wp2
         go_quiet (fail)
         go_wp2
         all_goals first
           | (go_roundw
              case rel => exact ⟨k + 1, by omega, by go_num, ⟨_, (by first | rfl | exact World.drewN_drewN _ _ _)⟩, HS2.out⟩
              case measure => simp [intOf]; omega)
           | (exfalso; simp_all)
       · have e1 : ((l[k] : Int) != (y : Int)) = true := by simp; omega
         clear hxy hmn he hye
         go_wp2
         go_quiet (fail)
         go_wp2
         all_goals first
           | (go_ret; exact ⟨rfl, _, (by first | rfl | exact World.drewN_drewN _ _ _)⟩)
           | (exfalso; simp_all)
     · exact absurd (HS.out.all hmn (by omega)) hne
 · have he : ((l.length : Int) != (m.length : Int)) = true := by simp; omega
   clear hmn
   go_enter Tryz.func218, Tryz.ntmps218
   go_wp2
   all_goals (go_ret; exact ⟨rfl, 0, rfl⟩)
end Go.EvPart.N
namespace Go.EvPart.N
open Go Go.Proofs Go.RowKit Go.EvNil
theorem _root_.Go.EvNil.ArgsAt.ints {w : World} {a : Option Addr} {l : List Nat} (h : ArgsAt w a l) (hl : l.length <= 1000) : Ints w a l.length :=
 ⟨hl, fun h0 => by
   obtain ⟨b, o, e, hb, hc⟩ := h h0
   exact ⟨b, o, e, hb, fun i hi => ⟨_, hc i hi⟩⟩⟩
theorem sameRule_no (r q : Rl) (aa bb : Option Addr) (ac bc : Nat) (w : World) (ha : ArgsAt w aa r.args) (hb : ArgsAt w bb q.args) (h1 : r.args.length <= 3) (h2 : q.args.length <= 3) (hd : Differ r q) :
   Calls Tryz.prog 151 #[.agg #[.int .i64 r.h, .string r.op, .string r.pa, .slice aa r.args.length ac], .agg #[.int .i64 q.h, .string q.op, .string q.pa, .slice bb q.args.length bc]] w fun e w' => e = .returned (.bool false) /\ Below w.heap.size w w' := by
 by_cases e4 : r.args = q.args
 · have HE := Lib.hid (fun W (hW : Below w.heap.size w W) => ints_any aa bb r.args.length q.args.length ac bc W ((ha.below hW).ints (by omega)) ((hb.below hW).ints (by omega)))
   by_cases e1 : r.h = q.h
   · have c1 : ((r.h : Int) == (q.h : Int)) = true := by simp [e1]
     by_cases e2 : r.op = q.op
     · have c2' : (r.op.toList == q.op.toList) = true := by simp [e2]
       have e3 : r.pa ≠ q.pa := by
         rcases hd with h | h | h | h
         · exact absurd e1 h
         · exact absurd e2 h
         · exact h
         · exact absurd e4 h
       have c3' : (r.pa.toList == q.pa.toList) = false := bytes_ne e3
       clear hd e1 e2 e3 e4
       go_enter Tryz.func151, Tryz.ntmps151
       go_wp2_with (go_at_call 218; refine (HE.out _ (below2 _ _ _)).mono ?_; rintro e w' ⟨⟨rr, rfl⟩, dq, rfl⟩)
       all_goals (go_ret; exact ⟨rfl, (below2 _ _ _).trans (Drawn.below ⟨dq, rfl⟩ _)⟩)
     · have c2' : (r.op.toList == q.op.toList) = false := bytes_ne e2
       clear hd e1 e2 e4
       go_enter Tryz.func151, Tryz.ntmps151
       go_wp2_with (go_at_call 218; refine (HE.out _ (below2 _ _ _)).mono ?_; rintro e w' ⟨⟨rr, rfl⟩, dq, rfl⟩)
       all_goals (go_ret; exact ⟨rfl, (below2 _ _ _).trans (Drawn.below ⟨dq, rfl⟩ _)⟩)
   · have c1 : ((r.h : Int) == (q.h : Int)) = false := by simp; omega
     clear hd e1 e4
     go_enter Tryz.func151, Tryz.ntmps151
     go_wp2_with (go_at_call 218; refine (HE.out _ (below2 _ _ _)).mono ?_; rintro e w' ⟨⟨rr, rfl⟩, dq, rfl⟩)
     all_goals (go_ret; exact ⟨rfl, (below2 _ _ _).trans (Drawn.below ⟨dq, rfl⟩ _)⟩)
 · have HE := Lib.hid (fun W (hW : Below w.heap.size w W) => ints_no aa bb ac bc r.args q.args W (ha.below hW) (hb.below hW) (by omega) (by omega) e4)
   clear hd e4
   go_enter Tryz.func151, Tryz.ntmps151
   go_wp2_with (go_at_call 218; refine (HE.out _ (below2 _ _ _)).mono ?_; rintro e w' ⟨rfl, dq, rfl⟩)
   all_goals (go_ret; exact ⟨by first | rfl | simp, (below2 _ _ _).trans (Drawn.below ⟨dq, rfl⟩ _)⟩)
theorem unique_yes (a : Option Addr) (n c : Nat) (w : World) (N : Nat -> ByteArray) (h1 : n <= 1000) (h : 0 < n -> ∃ b o, a = some ⟨b, o, none⟩ /\ b < w.heap.size /\ ∀ i, i < n -> w.cell? ⟨b, o + i, none⟩ = some (.string (N i))) (hN : ∀ i, i < n -> NameOk (N i)) (hd : ∀ i j, i < j -> j < n -> N i ≠ N j) : Calls Tryz.prog 97 #[.slice a n c] w fun e w' => e = .returned (.bool true) /\ Drawn w w' := by
 have HNM := Lib.hid hN
 have HD := Lib.hid hd
 clear hN hd
 go_enter Tryz.func97, Tryz.ntmps97
 go_wp2
 go_loopw [3] (fun i wr => ∃ k : Nat, k <= n /\ i = .int .i64 k /\ Drawn w wr) (fun i _ => n - (intOf i).toNat)
 case atStart => exact ⟨0, Nat.zero_le _, rfl, 0, rfl⟩
 case round =>
   obtain ⟨k, hk, rfl, q, rfl⟩ := hrel
   by_cases hlt : k < n
   · obtain ⟨b, o, rfl, hb, hc⟩ := h (by omega)
     have hx := hc k hlt
     have HNK := Lib.hid (HNM.out k hlt)
     have i2 : (k : Int) < (n : Int) := by omega
     go_wp2_with (go_at_call 95; refine (name_yes _ _ HNK.out).mono ?_; rintro e w' ⟨rfl, rfl⟩)
     · go_loopw [5] (fun j wr => ∃ m : Nat, m <= k /\ j = .int .i64 m /\ Drawn w wr) (fun j _ => k - (intOf j).toNat)
       case atStart => exact ⟨0, Nat.zero_le _, rfl, q, rfl⟩
       case round =>
         obtain ⟨m, hm, rfl, q2, rfl⟩ := hrel
         by_cases hlt2 : m < k
         · have hy := hc m (by omega)
           have hne := bytes_ne (HD.out m k hlt2 hlt)
           have j1 : (0 : Int) <= (m : Int) := by omega
           have j2 : (m : Int) < (n : Int) := by omega
           have j3 : (0 : Int) <= (k : Int) := by omega
           go_wp2
           go_quiet (fail)
           go_wp2
           all_goals first
             | (go_roundw
                case rel => exact ⟨m + 1, by omega, by go_num, _, (by first | rfl | exact World.drewN_drewN _ _ _)⟩
                case measure => simp [intOf]; omega)
             | (refine ⟨⟨m + 1, by omega, by go_num, _, rfl⟩, ?_⟩; simp [intOf]; omega)
         · go_wp2
           go_roundw
           case rel => exact ⟨k + 1, by omega, by go_num, _, rfl⟩
           case measure => simp [intOf]; omega
   · go_wp2
     all_goals (go_ret; exact ⟨rfl, q, rfl⟩)
end Go.EvPart.N
namespace Go.EvPart.N
open Go Go.Proofs Go.RowKit Go.EvNil
theorem rightRule_yes (nm ver cs st : Value) (sa ra : Option Addr) (ss : List (ByteArray × Nat)) (M : Nat -> Nat) (rs : List Rl) (sc rc k : Nat) (w : World) (hY : SymsAt w sa ss M) (hN : ∀ c ∈ ss, NameOk c.1) (h12 : ss.length <= 12) (hR : RulesAt w ra rs) (hrn : rs.length <= 40) (hRO : ∀ r ∈ rs, RuleOk ss.length r) (hD : ∀ i j (hi : i < rs.length) (hj : j < rs.length), i < j -> Differ rs[i] rs[j]) (hk : k < rs.length) :
   Calls Tryz.prog 98 #[.agg #[nm, ver, cs, .slice sa ss.length sc, .slice ra rs.length rc, st], .int .i64 k] w fun e w' => e = .returned (.bool true) /\ Below w.heap.size w w' := by
 obtain ⟨b, o, rfl, hb, hc⟩ := hR
 obtain ⟨aa, ac, r⟩ := hc k hk
 have HSY := Lib.hid (fun W (hW : Below w.heap.size w W) (i : Nat) (hi : i < ss.length) => symbolName_yes nm ver cs (.slice (some ⟨b, o, none⟩) rs.length rc) st sa ss M sc i W (hY.below hW) hN hi h12)
 have hRK := hRO _ (List.getElem_mem hk)
 have HNO := Lib.hid hRK.op
 have HPO := Lib.hid hRK.pa
 have HAG := Lib.hid hRK.args
 have hal3 := hRK.al
 have hh := hRK.h
 have HAL := Lib.hid (fun i (hi : i < rs.length) => (hRO _ (List.getElem_mem hi)).al)
 have HD := Lib.hid hD
 have HC := Lib.hid hc
 have HAR := Lib.hid r.args
 have i1 : (k : Int) < (rs.length : Int) := by omega
 have i0 : (0 : Int) <= (k : Int) := by omega
 have c0 := r.c0
 have c1 := r.c1
 have c2 := r.c2
 have c3 := r.c3
 have hal : decide ((3 : Int) < (rs[k].args.length : Int)) = false := by simp; omega
 have HB2 : ∀ o1 o2, Below w.heap.size w ((w.alloc o1).alloc o2) := fun o1 o2 => ((Below.refl _ _).alloc (Nat.le_refl _) _).alloc (by simp) _
 clear hY hN hRO hRK hD hc r
 go_enter Tryz.func98, Tryz.ntmps98
 go_wp2_with (first
   | (go_at_call 95; refine (name_yes _ _ HNO.out).mono ?_; rintro e w' ⟨rfl, rfl⟩)
   | (go_at_call 150; refine (param_yes _ _ HPO.out.1 HPO.out.2).mono ?_; rintro e w' ⟨rfl, rfl⟩)
   | (go_at_call 152; refine (HSY.out _ (HB2 _ _) _ hh).mono ?_; rintro e w3 ⟨⟨sname, rfl, hbl⟩, hb3⟩))
 have hz3 : w.heap.size + 2 <= w3.heap.size := by have := hb3.size; simp at this; omega
 have HX : Boxes w3 w.heap.size (w.heap.size + 1) #[nm, ver, cs, .slice sa ss.length sc, .slice (some ⟨b, o, none⟩) rs.length rc, st] #[.int .i64 rs[k].h, .string rs[k].op, .string rs[k].pa, .slice aa rs[k].args.length ac] := by
   refine ⟨by omega, by omega, ?_, ?_⟩
   · rw [hb3.block _ (by simp only [sizeNew]; omega)]
     rw [heapOld _ _ (by simp only [sizeNew]; omega)]
     exact heapNew w _
   · rw [hb3.block _ (by simp only [sizeNew]; omega)]
     have := heapNew (w.alloc (.cells #[nm, ver, cs, .slice sa ss.length sc, .slice (some ⟨b, o, none⟩) rs.length rc, st] 29)) (.cells #[.int .i64 rs[k].h, .string rs[k].op, .string rs[k].pa, .slice aa rs[k].args.length ac] 76)
     rw [sizeNew] at this
     exact this
 have HB3 : Below w.heap.size w w3 := (HB2 _ _).trans (hb3.mono (by simp; omega))
 clear hb3
 try rw [show (sname.toList == [32]) = false by assumption]
 go_loopw [8] (fun i wr => ∃ j : Nat, j <= rs[k].args.length /\ i = .int .i64 j /\ Below w3.heap.size w3 wr) (fun i _ => rs[k].args.length - (intOf i).toNat)
 case atStart => exact ⟨0, Nat.zero_le _, rfl, Below.refl _ _⟩
 case round =>
   obtain ⟨wo, rfl⟩ : ∃ wo : World, wo = wr := ⟨_, rfl⟩
   obtain ⟨j, hj, rfl, hbr⟩ := hrel
   have HXr := HX.below hbr
   have HBr : Below w.heap.size w wo := HB3.trans (hbr.mono (by omega))
   have d3 := cellOf (i := 3) HXr.2.2.2 rfl
   by_cases hlt : j < rs[k].args.length
   · obtain ⟨ab, ao, rfl, hab, hax⟩ := (HAR.out.below HBr) (by omega)
     have hcx := hax j hlt
     have hxs := HAG.out _ (List.getElem_mem hlt)
     have e0 := cellOf (i := 0) HXr.2.2.1 rfl
     have e1 := cellOf (i := 1) HXr.2.2.1 rfl
     have e2 := cellOf (i := 2) HXr.2.2.1 rfl
     have e3 := cellOf (i := 3) HXr.2.2.1 rfl
     have e4 := cellOf (i := 4) HXr.2.2.1 rfl
     have e5 := cellOf (i := 5) HXr.2.2.1 rfl
     have j1 : (0 : Int) <= (j : Int) := by omega
     have j2 : (j : Int) < (rs[k].args.length : Int) := by omega
     have j3 : (j : Int) <= 1000 := by omega
     clear hax
     go_wp2
     go_still_tail 6, (by kernel_rfl)
     go_wp2_with (go_at_call 152; refine (HSY.out _ HBr.drew _ hxs).mono ?_; rintro e w4 ⟨⟨sname2, rfl, hbl2⟩, hb4⟩)
     all_goals (
       go_roundw
       case rel => first | exact ⟨j + 1, by omega, by go_num, (hbr.drew).trans (hb4.mono hbr.size)⟩ | ((repeat apply Exists.intro); refine ⟨?_, rfl⟩; exact ⟨j + 1, by omega, by go_num, (hbr.drew).trans (hb4.mono hbr.size)⟩)
       case measure => simp [intOf]; omega)
   · go_wp2
     go_loopw [9] (fun i wq => ∃ m : Nat, m <= k /\ i = .int .i64 m /\ Below wo.heap.size wo wq) (fun i _ => k - (intOf i).toNat)
     case atStart => exact ⟨0, Nat.zero_le _, rfl, Below.refl _ _⟩
     case round =>
       obtain ⟨m, hm, rfl, hbq⟩ := hrel
       have HXq := HXr.below hbq
       have HBq : Below w.heap.size w wr := HBr.trans (hbq.mono HBr.size)
       by_cases hlt2 : m < k
       · have hmr : m < rs.length := by omega
         obtain ⟨aa', ac', r'⟩ := HC.out m hmr
         have rq := r'.below hb HBq
         have f0 := rq.c0
         have f1 := rq.c1
         have f2 := rq.c2
         have f3 := rq.c3
         have HSR := Lib.hid (fun W (hW : Below w.heap.size w W) => sameRule_no rs[m] rs[k] aa' aa ac' ac W (r'.args.below hW) (HAR.out.below hW) (HAL.out m hmr) hal3 (HD.out m k hmr hk hlt2))
         have e4 := cellOf (i := 4) HXq.2.2.1 rfl
         have g0 := cellOf (i := 0) HXq.2.2.2 rfl
         have g1 := cellOf (i := 1) HXq.2.2.2 rfl
         have g2 := cellOf (i := 2) HXq.2.2.2 rfl
         have g3 := cellOf (i := 3) HXq.2.2.2 rfl
         have j1 : (0 : Int) <= (m : Int) := by omega
         have j2 : (m : Int) < (rs.length : Int) := by omega
         have j3 : (m : Int) <= 1000 := by omega
         clear rq r'
         go_wp2
         go_still_tail 6, (by kernel_rfl)
         go_wp2_with (go_at_call 151; refine (HSR.out _ HBq.drew).mono ?_; rintro e w4 ⟨rfl, hb4⟩)
         all_goals (
           go_roundw
           case rel => first | exact ⟨m + 1, by omega, by go_num, (hbq.drew).trans (hb4.mono hbq.size)⟩ | ((repeat apply Exists.intro); refine ⟨?_, rfl⟩; exact ⟨m + 1, by omega, by go_num, (hbq.drew).trans (hb4.mono hbq.size)⟩)
           case measure => simp [intOf]; omega)
       · go_wp2
         all_goals (go_ret; exact ⟨rfl, HBq⟩)
end Go.EvPart.N
namespace Go.EvPart
open Go.EvNil (Rl)
def eat (rs : List Rl) : List Nat -> List Int -> Option Nat
 | [], _ => some 0
 | _ :: _, [] => none
 | s :: ss, x :: p =>
   if x = -1 then (eat rs ss p).map (· + 1)
   else if 0 <= x then
     match rs[x.toNat]? with
     | some r => if r.h = s then (eat rs (r.args ++ ss) p).map (· + 1) else none
     | none => none
   else none
theorem eat_nil (rs : List Rl) (p : List Int) : eat rs [] p = some 0 := by cases p <;> rfl
theorem eat_end (rs : List Rl) (s : Nat) (ss : List Nat) : eat rs (s :: ss) [] = none := rfl
theorem eat_hole (rs : List Rl) (s : Nat) (ss : List Nat) (p : List Int) : eat rs (s :: ss) (-1 :: p) = (eat rs ss p).map (· + 1) := by
 rw [eat, if_pos rfl]
theorem eat_rule (rs : List Rl) (s : Nat) (ss : List Nat) (p : List Int) (k : Nat) (hk : k < rs.length) (hs : rs[k].h = s) : eat rs (s :: ss) ((k : Int) :: p) = (eat rs (rs[k].args ++ ss) p).map (· + 1) := by
 have h1 : rs[(k : Int).toNat]? = some rs[k] := by simp [hk]
 rw [eat, if_neg (by omega), if_pos (by omega), h1]
 simp [hs]
theorem eat_bad (rs : List Rl) (s : Nat) (ss : List Nat) (x : Int) (p : List Int) (h1 : x ≠ -1) (h2 : ∀ k : Nat, x = k -> ∀ hk : k < rs.length, rs[k].h ≠ s) : eat rs (s :: ss) (x :: p) = none := by
 rw [eat, if_neg h1]
 by_cases h0 : 0 <= x
 · rw [if_pos h0]
   cases hr : rs[x.toNat]? with
   | none => rfl
   | some r =>
     obtain ⟨hk, rfl⟩ := List.getElem?_eq_some_iff.1 hr
     simp only
     rw [if_neg (h2 x.toNat (by omega) hk)]
 · rw [if_neg h0]
theorem eat_some {rs : List Rl} {s : Nat} {ss : List Nat} {p : List Int} {n : Nat} (h : eat rs (s :: ss) p = some n) :
   ∃ x q, p = x :: q /\ ((x = -1 /\ ∃ m, n = m + 1 /\ eat rs ss q = some m) ∨ ∃ (k : Nat) (hk : k < rs.length), x = k /\ rs[k].h = s /\ ∃ m, n = m + 1 /\ eat rs (rs[k].args ++ ss) q = some m) := by
 cases p with
 | nil => rw [eat_end] at h; cases h
 | cons x q =>
   refine ⟨x, q, rfl, ?_⟩
   by_cases h1 : x = -1
   · subst h1
     rw [eat_hole] at h
     obtain ⟨m, hm, rfl⟩ := Option.map_eq_some_iff.1 h
     exact .inl ⟨rfl, m, rfl, hm⟩
   · by_cases h2 : ∃ (k : Nat) (hk : k < rs.length), x = k /\ rs[k].h = s
     · obtain ⟨k, hk, rfl, hs⟩ := h2
       rw [eat_rule rs s ss q k hk hs] at h
       obtain ⟨m, hm, rfl⟩ := Option.map_eq_some_iff.1 h
       exact .inr ⟨k, hk, rfl, hs, m, rfl, hm⟩
     · rw [eat_bad rs s ss x q h1 fun k hx hk e => h2 ⟨k, hk, hx, e⟩] at h
       cases h
theorem eat_app (rs : List Rl) : ∀ (p : List Int) (a b : List Nat), eat rs (a ++ b) p = (eat rs a p).bind fun n => (eat rs b (p.drop n)).map (n + ·)
 | p, [], b => by
   rw [eat_nil]
   simp
 | [], s :: ss, b => by simp [eat_end]
 | x :: p, s :: ss, b => by
   rw [List.cons_append]
   by_cases h1 : x = -1
   · subst h1
     rw [eat_hole, eat_hole, eat_app rs p ss b]
     cases eat rs ss p with
     | none => rfl
     | some n =>
       simp only [Option.bind_some, Option.map_some, List.drop_succ_cons]
       cases eat rs b (p.drop n) with
       | none => rfl
       | some m => simp; omega
   · by_cases h2 : ∃ (k : Nat) (hk : k < rs.length), x = k /\ rs[k].h = s
     · obtain ⟨k, hk, rfl, hs⟩ := h2
       rw [eat_rule rs s _ p k hk hs, eat_rule rs s _ p k hk hs, ← List.append_assoc, eat_app rs p (rs[k].args ++ ss) b]
       cases eat rs (rs[k].args ++ ss) p with
       | none => rfl
       | some n =>
         simp only [Option.bind_some, Option.map_some, List.drop_succ_cons]
         cases eat rs b (p.drop n) with
         | none => rfl
         | some m => simp; omega
     · have hb : ∀ k : Nat, x = k -> ∀ hk : k < rs.length, rs[k].h ≠ s := fun k hx hk e => h2 ⟨k, hk, hx, e⟩
       rw [eat_bad rs s _ x p h1 hb, eat_bad rs s _ x p h1 hb]
       rfl
theorem eat_le (rs : List Rl) : ∀ (p : List Int) (a : List Nat) (n : Nat), eat rs a p = some n -> n <= p.length
 | p, [], n, h => by rw [eat_nil] at h; cases h; exact Nat.zero_le _
 | [], s :: ss, n, h => by rw [eat_end] at h; cases h
 | x :: p, s :: ss, n, h => by
   obtain ⟨x', q, e, h'⟩ := eat_some h
   cases e
   rcases h' with ⟨_, m, rfl, hm⟩ | ⟨k, hk, _, _, m, rfl, hm⟩
   · have := eat_le rs p _ m hm; simp; omega
   · have := eat_le rs p _ m hm; simp; omega
theorem eat_ext (rs : List Rl) : ∀ (p : List Int) (a : List Nat) (n : Nat) (q : List Int), eat rs a p = some n -> eat rs a (p ++ q) = some n
 | p, [], n, q, h => by rw [eat_nil] at h ⊢; exact h
 | [], s :: ss, n, q, h => by rw [eat_end] at h; cases h
 | x :: p, s :: ss, n, q, h => by
   obtain ⟨x', q', e, h'⟩ := eat_some h
   cases e
   rw [List.cons_append]
   rcases h' with ⟨rfl, m, rfl, hm⟩ | ⟨k, hk, rfl, hs, m, rfl, hm⟩
   · rw [eat_hole, eat_ext rs p _ m q hm]; rfl
   · rw [eat_rule rs s ss _ k hk hs, eat_ext rs p _ m q hm]; rfl
theorem eat_pos {rs : List Rl} {s : Nat} {ss : List Nat} {p : List Int} {n : Nat} (h : eat rs (s :: ss) p = some n) : 0 < n := by
 obtain ⟨_, _, _, h'⟩ := eat_some h
 rcases h' with ⟨_, m, rfl, _⟩ | ⟨_, _, _, _, m, rfl, _⟩ <;> omega
def Sub (rs : List Rl) (M : Nat -> Nat) (p : List Int) : Prop := ∀ k, k < p.length -> ∃ (x : Nat) (hx : x < rs.length), p[k]? = some (x : Int) /\ ∃ m, eat rs [rs[x].h] (p.drop k) = some m /\ m <= M rs[x].h
theorem Sub.nil (rs : List Rl) (M : Nat -> Nat) : Sub rs M [] := fun k hk => by simp at hk
theorem Sub.app {rs : List Rl} {M : Nat -> Nat} {p q : List Int} (hp : Sub rs M p) (hq : Sub rs M q) : Sub rs M (p ++ q) := fun k hk => by
 by_cases h : k < p.length
 · obtain ⟨x, hx, h1, m, h2, h3⟩ := hp k h
   refine ⟨x, hx, by rw [List.getElem?_append_left h]; exact h1, m, ?_, h3⟩
   rw [List.drop_append_of_le_length (by omega)]
   exact eat_ext rs _ _ _ _ h2
 · obtain ⟨x, hx, h1, m, h2, h3⟩ := hq (k - p.length) (by simp at hk; omega)
   refine ⟨x, hx, by rw [List.getElem?_append_right (by omega)]; exact h1, m, ?_, h3⟩
   rw [List.drop_append, List.drop_eq_nil_of_le (by omega : p.length <= k), List.nil_append]
   exact h2
theorem Sub.cons {rs : List Rl} {M : Nat -> Nat} {k : Nat} {q : List Int} {n : Nat} (hk : k < rs.length) (hq : Sub rs M q) (he : eat rs rs[k].args q = some n) (hm : n + 1 <= M rs[k].h) : Sub rs M ((k : Int) :: q) := fun j hj => by
 cases j with
 | zero => exact ⟨k, hk, rfl, n + 1, by rw [List.drop_zero, eat_rule rs _ _ q k hk rfl, List.append_nil, he]; rfl, hm⟩
 | succ j =>
   obtain ⟨x, hx, h1, m, h2, h3⟩ := hq j (by simp at hj; omega)
   exact ⟨x, hx, by simpa using h1, m, by simpa using h2, h3⟩
structure Prg (rs : List Rl) (M : Nat -> Nat) (s n : Nat) (p : List Int) : Prop where
 len : p.length = n
 eat : eat rs [s] p = some n
 sub : Sub rs M p
 le : n <= M s
theorem Prg.pos {rs : List Rl} {M : Nat -> Nat} {s n : Nat} {p : List Int} (h : Prg rs M s n p) : 0 < n := eat_pos h.eat
theorem Prg.rule {rs : List Rl} {M : Nat -> Nat} {s n : Nat} {p : List Int} (h : Prg rs M s n p) : ∀ x ∈ p, 0 <= x /\ x < rs.length := fun x hx => by
 obtain ⟨k, hk⟩ := List.mem_iff_getElem?.1 hx
 obtain ⟨hlt, _⟩ := List.getElem?_eq_some_iff.1 hk
 obtain ⟨y, hy, h1, _⟩ := h.sub k hlt
 rw [hk] at h1
 cases h1
 omega
theorem Prg.head {rs : List Rl} {M : Nat -> Nat} {s n : Nat} {p : List Int} (h : Prg rs M s n p) : ∃ (k : Nat) (hk : k < rs.length) (q : List Int), p = (k : Int) :: q /\ rs[k].h = s := by
 obtain ⟨x, q, rfl, h'⟩ := eat_some h.eat
 rcases h' with ⟨rfl, _⟩ | ⟨k, hk, rfl, hs, _⟩
 · have := (h.rule (-1) (List.mem_cons_self ..)).1; omega
 · exact ⟨k, hk, q, rfl, hs⟩
theorem eat_open (rs : List Rl) : ∀ (p : List Int) (a : List Nat) (n k : Nat), eat rs a p = some n -> k < n -> (∀ x ∈ p, x ≠ -1) -> ∀ (x : Nat) (hx : x < rs.length), p[k]? = some (x : Int) -> ∀ m, eat rs [rs[x].h] (p.drop k) = some m -> k + m <= n /\ eat rs a (p.take k ++ -1 :: p.drop (k + m)) = some (n + 1 - m)
 | p, [], n, k, h, hk, _, x, hx, hpx, m, hm => by rw [eat_nil] at h; cases h; omega
 | [], s :: ss, n, k, h, _, _, _, _, _, _, _ => by rw [eat_end] at h; cases h
 | y :: p, s :: ss, n, k, h, hk, hc, x, hx, hpx, m, hm => by
   cases k with
   | zero =>
     simp at hpx
     subst hpx
     rw [List.drop_zero] at hm
     obtain ⟨y', q, e, h'⟩ := eat_some h
     cases e
     rcases h' with ⟨e, _⟩ | ⟨k', hk', e, hs, j, rfl, hj⟩
     · omega
     · obtain rfl : x = k' := by omega
       rw [show s :: ss = [s] ++ ss from rfl, ← hs, eat_app, hm] at h
       simp only [Option.bind_some] at h
       obtain ⟨j', hj', e⟩ := Option.map_eq_some_iff.1 h
       refine ⟨by omega, ?_⟩
       rw [List.take_zero, List.nil_append, Nat.zero_add, eat_hole, hj']
       simp; omega
   | succ k =>
     obtain ⟨y', q, e, h'⟩ := eat_some h
     cases e
     have hpx' : p[k]? = some (x : Int) := by simpa using hpx
     have hm' : eat rs [rs[x].h] (p.drop k) = some m := by simpa using hm
     rcases h' with ⟨e, _⟩ | ⟨k', hk', rfl, hs, j, rfl, hj⟩
     · exact absurd e (hc y (List.mem_cons_self ..))
     · obtain ⟨h1, h2⟩ := eat_open rs p _ j k hj (by omega) (fun x hx => hc x (List.mem_cons_of_mem _ hx)) x hx hpx' m hm'
       refine ⟨by omega, ?_⟩
       rw [List.take_succ_cons, List.cons_append, show k + 1 + m = (k + m) + 1 by omega, List.drop_succ_cons, eat_rule rs s ss _ k' hk' hs, h2]
       simp; omega
end Go.EvPart
namespace Go.Proofs
open Go.Shelf
def Tryz.lays169_ren : Go.Shelf.Ren := ⟨fun | 169 => 61 | n => n, fun | 70 => 120 | 9 => 9 | 0 => 0 | 72 => 123 | 37 => 121 | 127 => 187 | 3 => 3 | 5 => 5 | n => n, fun | n => n⟩
theorem Tryz.lays169 : Go.Proofs.Lays.n169 Tryz.prog Tryz.lays169_ren := {
 mixed := by kernel_rfl
 f169 := Tryz.func61.trans (congrArg some (by kernel_rfl))
 t0 := Tryz.underlying0
 a0 := Tryz.isAgg0
 z0 := Tryz.sizeOf0
 v0 := Tryz.zeroValue0
 t3 := Tryz.underlying3
 a3 := Tryz.isAgg3
 z3 := Tryz.sizeOf3
 v3 := Tryz.zeroValue3
 t9 := Tryz.underlying9
 a9 := Tryz.isAgg9
 z9 := Tryz.sizeOf9
 v9 := Tryz.zeroValue9
 t37 := Tryz.underlying121
 a37 := Tryz.isAgg121
 z37 := Tryz.sizeOf121
 v37 := Tryz.zeroValue121
 t70 := Tryz.underlying120
 a70 := Tryz.isAgg120
 z70 := Tryz.sizeOf120
 v70 := Tryz.zeroValue120
 t72 := Tryz.underlying123
 a72 := Tryz.isAgg123
 z72 := Tryz.sizeOf123
 v72 := Tryz.zeroValue123
 t127 := Tryz.underlying187
 a127 := Tryz.isAgg187
 z127 := Tryz.sizeOf187
 v127 := Tryz.zeroValue187 }
def Tryz.lays158_ren : Go.Shelf.Ren := ⟨fun | 158 => 349 | 165 => 88 | 166 => 57 | 167 => 58 | 169 => 61 | 230 => 400 | 203 => 401 | 240 => 121 | 241 => 145 | 197 => 187 | 118 => 444 | 168 => 445 | 270 => 446 | 262 => 447 | 276 => 184 | 277 => 216 | 260 => 297 | 242 => 465 | 313 => 466 | 278 => 471 | 274 => 472 | 275 => 473 | n => n, fun | 9 => 9 | 4 => 4 | 3 => 3 | 5 => 5 | 72 => 123 | 0 => 0 | 76 => 126 | 75 => 125 | 107 => 367 | 70 => 120 | 20 => 20 | 37 => 121 | 127 => 187 | 21 => 21 | 105 => 252 | 164 => 249 | 162 => 415 | 203 => 413 | 119 => 345 | 46 => 235 | 139 => 348 | 138 => 347 | 51 => 307 | 160 => 421 | 208 => 431 | 206 => 429 | 80 => 133 | n => n, fun | 13 => 10 | 3 => 3 | 4 => 4 | n => n⟩
theorem Tryz.lays158 : Go.Proofs.Lays.n158 Tryz.prog Tryz.lays158_ren := {
 mixed := by kernel_rfl
 f118 := Tryz.func444.trans (congrArg some (by kernel_rfl))
 f158 := Tryz.func349.trans (congrArg some (by kernel_rfl))
 f165 := Tryz.func88.trans (congrArg some (by kernel_rfl))
 f166 := Tryz.func57.trans (congrArg some (by kernel_rfl))
 f167 := Tryz.func58.trans (congrArg some (by kernel_rfl))
 f168 := Tryz.func445.trans (congrArg some (by kernel_rfl))
 f169 := Tryz.func61.trans (congrArg some (by kernel_rfl))
 f197 := Tryz.func187.trans (congrArg some (by kernel_rfl))
 f203 := Tryz.func401.trans (congrArg some (by kernel_rfl))
 f230 := Tryz.func400.trans (congrArg some (by kernel_rfl))
 f240 := Tryz.func121.trans (congrArg some (by kernel_rfl))
 f241 := Tryz.func145.trans (congrArg some (by kernel_rfl))
 f242 := Tryz.func465.trans (congrArg some (by kernel_rfl))
 f260 := Tryz.func297.trans (congrArg some (by kernel_rfl))
 f262 := Tryz.func447.trans (congrArg some (by kernel_rfl))
 f270 := Tryz.func446.trans (congrArg some (by kernel_rfl))
 f274 := Tryz.func472.trans (congrArg some (by kernel_rfl))
 f275 := Tryz.func473.trans (congrArg some (by kernel_rfl))
 f276 := Tryz.func184.trans (congrArg some (by kernel_rfl))
 f277 := Tryz.func216.trans (congrArg some (by kernel_rfl))
 f278 := Tryz.func471.trans (congrArg some (by kernel_rfl))
 f313 := Tryz.func466.trans (congrArg some (by kernel_rfl))
 t0 := Tryz.underlying0
 a0 := Tryz.isAgg0
 z0 := Tryz.sizeOf0
 v0 := Tryz.zeroValue0
 t3 := Tryz.underlying3
 a3 := Tryz.isAgg3
 z3 := Tryz.sizeOf3
 v3 := Tryz.zeroValue3
 t4 := Tryz.underlying4
 a4 := Tryz.isAgg4
 z4 := Tryz.sizeOf4
 v4 := Tryz.zeroValue4
 t5 := Tryz.underlying5
 a5 := Tryz.isAgg5
 z5 := Tryz.sizeOf5
 v5 := Tryz.zeroValue5
 t9 := Tryz.underlying9
 a9 := Tryz.isAgg9
 z9 := Tryz.sizeOf9
 v9 := Tryz.zeroValue9
 t20 := Tryz.underlying20
 a20 := Tryz.isAgg20
 z20 := Tryz.sizeOf20
 v20 := Tryz.zeroValue20
 t21 := Tryz.underlying21
 a21 := Tryz.isAgg21
 z21 := Tryz.sizeOf21
 v21 := Tryz.zeroValue21
 t37 := Tryz.underlying121
 a37 := Tryz.isAgg121
 z37 := Tryz.sizeOf121
 v37 := Tryz.zeroValue121
 t46 := Tryz.underlying235
 a46 := Tryz.isAgg235
 z46 := Tryz.sizeOf235
 v46 := Tryz.zeroValue235
 t51 := Tryz.underlying307
 a51 := Tryz.isAgg307
 z51 := Tryz.sizeOf307
 v51 := Tryz.zeroValue307
 t70 := Tryz.underlying120
 a70 := Tryz.isAgg120
 z70 := Tryz.sizeOf120
 v70 := Tryz.zeroValue120
 t72 := Tryz.underlying123
 a72 := Tryz.isAgg123
 z72 := Tryz.sizeOf123
 v72 := Tryz.zeroValue123
 t75 := Tryz.underlying125
 a75 := Tryz.isAgg125
 z75 := Tryz.sizeOf125
 v75 := Tryz.zeroValue125
 t76 := Tryz.underlying126
 a76 := Tryz.isAgg126
 z76 := Tryz.sizeOf126
 v76 := Tryz.zeroValue126
 t105 := Tryz.underlying252
 a105 := Tryz.isAgg252
 z105 := Tryz.sizeOf252
 v105 := Tryz.zeroValue252
 t107 := Tryz.underlying367
 a107 := Tryz.isAgg367
 z107 := Tryz.sizeOf367
 v107 := Tryz.zeroValue367
 t119 := Tryz.underlying345
 a119 := Tryz.isAgg345
 z119 := Tryz.sizeOf345
 t127 := Tryz.underlying187
 a127 := Tryz.isAgg187
 z127 := Tryz.sizeOf187
 v127 := Tryz.zeroValue187
 t138 := Tryz.underlying347
 a138 := Tryz.isAgg347
 z138 := Tryz.sizeOf347
 v138 := Tryz.zeroValue347
 t139 := Tryz.underlying348
 a139 := Tryz.isAgg348
 z139 := Tryz.sizeOf348
 v139 := Tryz.zeroValue348
 t160 := Tryz.underlying421
 a160 := Tryz.isAgg421
 z160 := Tryz.sizeOf421
 v160 := Tryz.zeroValue421
 t162 := Tryz.underlying415
 a162 := Tryz.isAgg415
 z162 := Tryz.sizeOf415
 v162 := Tryz.zeroValue415
 t164 := Tryz.underlying249
 a164 := Tryz.isAgg249
 z164 := Tryz.sizeOf249
 v164 := Tryz.zeroValue249
 t203 := Tryz.underlying413
 a203 := Tryz.isAgg413
 z203 := Tryz.sizeOf413
 v203 := Tryz.zeroValue413
 t206 := Tryz.underlying429
 a206 := Tryz.isAgg429
 z206 := Tryz.sizeOf429
 v206 := Tryz.zeroValue429
 t208 := Tryz.underlying431
 a208 := Tryz.isAgg431
 z208 := Tryz.sizeOf431
 v208 := Tryz.zeroValue431
 g3 := by kernel_rfl
 g4 := by kernel_rfl
 g13 := by kernel_rfl }
def Tryz.lays156_ren : Go.Shelf.Ren := ⟨fun | 156 => 36 | 165 => 88 | 166 => 57 | 169 => 61 | 240 => 121 | 241 => 145 | 276 => 184 | 277 => 216 | n => n, fun | 31 => 35 | 9 => 9 | 3 => 3 | 4 => 4 | 0 => 0 | 20 => 20 | 72 => 123 | 76 => 126 | 70 => 120 | 37 => 121 | 75 => 125 | 127 => 187 | 164 => 249 | 5 => 5 | 80 => 133 | n => n, fun | n => n⟩
theorem Tryz.lays156 : Go.Proofs.Lays.n156 Tryz.prog Tryz.lays156_ren := {
 mixed := by kernel_rfl
 f156 := Tryz.func36.trans (congrArg some (by kernel_rfl))
 f165 := Tryz.func88.trans (congrArg some (by kernel_rfl))
 f166 := Tryz.func57.trans (congrArg some (by kernel_rfl))
 f169 := Tryz.func61.trans (congrArg some (by kernel_rfl))
 f240 := Tryz.func121.trans (congrArg some (by kernel_rfl))
 f241 := Tryz.func145.trans (congrArg some (by kernel_rfl))
 f276 := Tryz.func184.trans (congrArg some (by kernel_rfl))
 f277 := Tryz.func216.trans (congrArg some (by kernel_rfl))
 t0 := Tryz.underlying0
 a0 := Tryz.isAgg0
 z0 := Tryz.sizeOf0
 v0 := Tryz.zeroValue0
 t3 := Tryz.underlying3
 a3 := Tryz.isAgg3
 z3 := Tryz.sizeOf3
 v3 := Tryz.zeroValue3
 t4 := Tryz.underlying4
 a4 := Tryz.isAgg4
 z4 := Tryz.sizeOf4
 v4 := Tryz.zeroValue4
 t9 := Tryz.underlying9
 a9 := Tryz.isAgg9
 z9 := Tryz.sizeOf9
 v9 := Tryz.zeroValue9
 t20 := Tryz.underlying20
 a20 := Tryz.isAgg20
 z20 := Tryz.sizeOf20
 v20 := Tryz.zeroValue20
 t31 := Tryz.underlying35
 a31 := Tryz.isAgg35
 z31 := Tryz.sizeOf35
 v31 := Tryz.zeroValue35
 t37 := Tryz.underlying121
 a37 := Tryz.isAgg121
 z37 := Tryz.sizeOf121
 v37 := Tryz.zeroValue121
 t70 := Tryz.underlying120
 a70 := Tryz.isAgg120
 z70 := Tryz.sizeOf120
 v70 := Tryz.zeroValue120
 t72 := Tryz.underlying123
 a72 := Tryz.isAgg123
 z72 := Tryz.sizeOf123
 v72 := Tryz.zeroValue123
 t75 := Tryz.underlying125
 a75 := Tryz.isAgg125
 z75 := Tryz.sizeOf125
 v75 := Tryz.zeroValue125
 t76 := Tryz.underlying126
 a76 := Tryz.isAgg126
 z76 := Tryz.sizeOf126
 v76 := Tryz.zeroValue126
 t127 := Tryz.underlying187
 a127 := Tryz.isAgg187
 z127 := Tryz.sizeOf187
 v127 := Tryz.zeroValue187
 t164 := Tryz.underlying249
 a164 := Tryz.isAgg249
 z164 := Tryz.sizeOf249
 v164 := Tryz.zeroValue249 }
def Tryz.lays138_ren : Go.Shelf.Ren := ⟨fun | 138 => 185 | 195 => 294 | 218 => 295 | 143 => 186 | 219 => 296 | 217 => 307 | 225 => 368 | 224 => 369 | 267 => 370 | 266 => 373 | 314 => 422 | n => n, fun | 9 => 9 | 3 => 3 | 4 => 4 | 5 => 5 | 0 => 0 | 46 => 235 | 146 => 384 | 51 => 307 | n => n, fun | 1 => 2 | n => n⟩
theorem Tryz.lays138 : Go.Proofs.Lays.n138 Tryz.prog Tryz.lays138_ren := {
 mixed := by kernel_rfl
 f138 := Tryz.func185.trans (congrArg some (by kernel_rfl))
 f143 := Tryz.func186.trans (congrArg some (by kernel_rfl))
 f195 := Tryz.func294.trans (congrArg some (by kernel_rfl))
 f217 := Tryz.func307.trans (congrArg some (by kernel_rfl))
 f218 := Tryz.func295.trans (congrArg some (by kernel_rfl))
 f219 := Tryz.func296.trans (congrArg some (by kernel_rfl))
 f224 := Tryz.func369.trans (congrArg some (by kernel_rfl))
 f225 := Tryz.func368.trans (congrArg some (by kernel_rfl))
 f266 := Tryz.func373.trans (congrArg some (by kernel_rfl))
 f267 := Tryz.func370.trans (congrArg some (by kernel_rfl))
 f314 := Tryz.func422.trans (congrArg some (by kernel_rfl))
 t0 := Tryz.underlying0
 a0 := Tryz.isAgg0
 z0 := Tryz.sizeOf0
 v0 := Tryz.zeroValue0
 t3 := Tryz.underlying3
 a3 := Tryz.isAgg3
 z3 := Tryz.sizeOf3
 v3 := Tryz.zeroValue3
 t4 := Tryz.underlying4
 a4 := Tryz.isAgg4
 z4 := Tryz.sizeOf4
 v4 := Tryz.zeroValue4
 t5 := Tryz.underlying5
 a5 := Tryz.isAgg5
 z5 := Tryz.sizeOf5
 v5 := Tryz.zeroValue5
 t9 := Tryz.underlying9
 a9 := Tryz.isAgg9
 z9 := Tryz.sizeOf9
 v9 := Tryz.zeroValue9
 t46 := Tryz.underlying235
 a46 := Tryz.isAgg235
 z46 := Tryz.sizeOf235
 v46 := Tryz.zeroValue235
 t51 := Tryz.underlying307
 a51 := Tryz.isAgg307
 z51 := Tryz.sizeOf307
 v51 := Tryz.zeroValue307
 t146 := Tryz.underlying384
 a146 := Tryz.isAgg384
 z146 := Tryz.sizeOf384
 v146 := Tryz.zeroValue384
 g1 := by kernel_rfl }
def Tryz.lays171_ren : Go.Shelf.Ren := ⟨fun | 171 => 34 | 243 => 85 | 246 => 140 | 283 => 207 | 284 => 208 | 285 => 209 | 286 => 210 | 129 => 313 | 317 => 312 | 318 => 314 | 319 => 315 | 320 => 316 | 337 => 375 | 338 => 376 | n => n, fun | 3 => 3 | 9 => 9 | 2 => 2 | 4 => 4 | 171 => 266 | 0 => 0 | 53 => 214 | 37 => 121 | 5 => 5 | 173 => 269 | 212 => 306 | 51 => 307 | 20 => 20 | 213 => 308 | 46 => 235 | 232 => 388 | 233 => 389 | n => n, fun | 17 => 1 | 18 => 6 | 19 => 7 | n => n⟩
theorem Tryz.lays171 : Go.Proofs.Lays.n171 Tryz.prog Tryz.lays171_ren := {
 mixed := by kernel_rfl
 f129 := Tryz.func313.trans (congrArg some (by kernel_rfl))
 f171 := Tryz.func34.trans (congrArg some (by kernel_rfl))
 f243 := Tryz.func85.trans (congrArg some (by kernel_rfl))
 f246 := Tryz.func140.trans (congrArg some (by kernel_rfl))
 f283 := Tryz.func207.trans (congrArg some (by kernel_rfl))
 f284 := Tryz.func208.trans (congrArg some (by kernel_rfl))
 f285 := Tryz.func209.trans (congrArg some (by kernel_rfl))
 f286 := Tryz.func210.trans (congrArg some (by kernel_rfl))
 f317 := Tryz.func312.trans (congrArg some (by kernel_rfl))
 f318 := Tryz.func314.trans (congrArg some (by kernel_rfl))
 f319 := Tryz.func315.trans (congrArg some (by kernel_rfl))
 f320 := Tryz.func316.trans (congrArg some (by kernel_rfl))
 f337 := Tryz.func375.trans (congrArg some (by kernel_rfl))
 f338 := Tryz.func376.trans (congrArg some (by kernel_rfl))
 t0 := Tryz.underlying0
 a0 := Tryz.isAgg0
 z0 := Tryz.sizeOf0
 v0 := Tryz.zeroValue0
 t2 := Tryz.underlying2
 a2 := Tryz.isAgg2
 z2 := Tryz.sizeOf2
 v2 := Tryz.zeroValue2
 t3 := Tryz.underlying3
 a3 := Tryz.isAgg3
 z3 := Tryz.sizeOf3
 v3 := Tryz.zeroValue3
 t4 := Tryz.underlying4
 a4 := Tryz.isAgg4
 z4 := Tryz.sizeOf4
 v4 := Tryz.zeroValue4
 t5 := Tryz.underlying5
 a5 := Tryz.isAgg5
 z5 := Tryz.sizeOf5
 v5 := Tryz.zeroValue5
 t9 := Tryz.underlying9
 a9 := Tryz.isAgg9
 z9 := Tryz.sizeOf9
 v9 := Tryz.zeroValue9
 t20 := Tryz.underlying20
 a20 := Tryz.isAgg20
 z20 := Tryz.sizeOf20
 v20 := Tryz.zeroValue20
 t37 := Tryz.underlying121
 a37 := Tryz.isAgg121
 z37 := Tryz.sizeOf121
 v37 := Tryz.zeroValue121
 t46 := Tryz.underlying235
 a46 := Tryz.isAgg235
 z46 := Tryz.sizeOf235
 v46 := Tryz.zeroValue235
 t51 := Tryz.underlying307
 a51 := Tryz.isAgg307
 z51 := Tryz.sizeOf307
 v51 := Tryz.zeroValue307
 t53 := Tryz.underlying214
 a53 := Tryz.isAgg214
 z53 := Tryz.sizeOf214
 v53 := Tryz.zeroValue214
 t171 := Tryz.underlying266
 a171 := Tryz.isAgg266
 z171 := Tryz.sizeOf266
 v171 := Tryz.zeroValue266
 t173 := Tryz.underlying269
 a173 := Tryz.isAgg269
 z173 := Tryz.sizeOf269
 v173 := Tryz.zeroValue269
 t212 := Tryz.underlying306
 a212 := Tryz.isAgg306
 z212 := Tryz.sizeOf306
 v212 := Tryz.zeroValue306
 t213 := Tryz.underlying308
 a213 := Tryz.isAgg308
 z213 := Tryz.sizeOf308
 t232 := Tryz.underlying388
 a232 := Tryz.isAgg388
 z232 := Tryz.sizeOf388
 v232 := Tryz.zeroValue388
 t233 := Tryz.underlying389
 a233 := Tryz.isAgg389
 z233 := Tryz.sizeOf389
 v233 := Tryz.zeroValue389
 g17 := by kernel_rfl
 g18 := by kernel_rfl
 g19 := by kernel_rfl }
theorem Tryz.Builder_Extra_169 : Builder.Extra Tryz.prog Tryz.lays169_ren := {
 sizeBuilder := by kernel_rfl
 liesBuilder := by kernel_rfl
 t5 := Tryz.underlying5
 a5 := Tryz.isAgg5
 z5 := Tryz.sizeOf5
 v5 := Tryz.zeroValue5
 infoByte := by kernel_rfl
 cellsByte := by kernel_rfl
 sizeByte := by kernel_rfl
 neB5 := by decide }
theorem Tryz.Builder_Extra_158 : Builder.Extra Tryz.prog Tryz.lays158_ren := {
 sizeBuilder := by kernel_rfl
 liesBuilder := by kernel_rfl
 t5 := Tryz.underlying5
 a5 := Tryz.isAgg5
 z5 := Tryz.sizeOf5
 v5 := Tryz.zeroValue5
 infoByte := by kernel_rfl
 cellsByte := by kernel_rfl
 sizeByte := by kernel_rfl
 neB5 := by decide }
theorem Tryz.Builder_Extra_156 : Builder.Extra Tryz.prog Tryz.lays156_ren := {
 sizeBuilder := by kernel_rfl
 liesBuilder := by kernel_rfl
 t5 := Tryz.underlying5
 a5 := Tryz.isAgg5
 z5 := Tryz.sizeOf5
 v5 := Tryz.zeroValue5
 infoByte := by kernel_rfl
 cellsByte := by kernel_rfl
 sizeByte := by kernel_rfl
 neB5 := by decide }
end Go.Proofs
