/- ItemPartials, one part of the proof: PartH2, PartY4. -/
import Derived.Test.YtljoobbnhbaklaaGreatDoorP12
import Derived.Test.YtljoobbnhbaklaaGreatDoorP13
import Derived.RangeFuncWrites
import Derived.Maps.AppendAt
set_option linter.all false
set_option maxRecDepth 100000
set_option maxHeartbeats 16000000
namespace Go.EvPart
open Go Go.Proofs Go.RowKit Go.Shelf Go.EvNil
attribute [local go_sem] Oper.semAt_some
def Marks (B : Nat) (w : World) : List Deferred -> Prop
 | [] => True
 | d :: ds => (∃ D, d = { target := .collected D, args := #[] } /\ B <= D /\ w.heap[D]? = some (.deferred (some [])) /\ ∀ e ∈ ds, e.target ≠ .collected D) /\ Marks B w ds
theorem Marks.put {B D : Nat} {w : World} : ∀ {ds : List Deferred}, Marks B w ds -> (∀ e ∈ ds, e.target ≠ .collected D) -> ∀ o, Marks B (w.putObj D o) ds
 | [], _, _, _ => trivial
 | d :: ds, ⟨⟨D', e1, e2, e3, e4⟩, h⟩, hn, o => by
   refine ⟨⟨D', e1, e2, ?_, e4⟩, h.put (fun e he => hn e (List.mem_cons_of_mem _ he)) o⟩
   have hne : D' ≠ D := fun e => hn d (List.mem_cons_self ..) (by rw [e1, e])
   rw [(grownBy_putObj' w D o).block D' (heap_lt' e3) (by simpa using hne)]
   exact e3
theorem leaves_marks {F : Fence} {n : Nat} {P : Program} {fn : Func} {tmps : Array Value} {R : Ending -> World -> Prop} {B : Nat} : ∀ (ds : List Deferred) (w : World), Marks B w ds -> (∀ w', Below B w w' -> LeavesIn F n P fn tmps R [] .returning w') -> LeavesInM F n P fn tmps R ds .returning w
 | [], w, _, h => h w (Below.refl _ _)
 | d :: ds, w, ⟨⟨D, e1, e2, e3, e4⟩, hm⟩, h => by
   refine ⟨by simp, .inl ⟨D, w.putObj D (.deferred none), by rw [e1], run_takeDeferred e3, ?_⟩⟩
   have hb : Below B w (w.putObj D (.deferred none)) := (Below.refl B w).grown (grownBy_putObj' w D _) (by have := heap_lt' e3; omega) (fun k hk => by cases hk; exact e2)
   exact leaves_marks ds _ (hm.put e4 _) fun w' hw' => h w' (hb.trans hw')
def ListAt (w : World) (pa : Option Addr) (p : List Int) : Prop := 0 < p.length -> ∃ b o, pa = some ⟨b, o, none⟩ /\ b < w.heap.size /\ ∀ i (hi : i < p.length), w.cell? ⟨b, o + i, none⟩ = some (.int .i64 p[i])
theorem ListAt.below {w w' : World} {pa : Option Addr} {p : List Int} (h : ListAt w pa p) (hb : Below w.heap.size w w') : ListAt w' pa p := fun h0 => by
 obtain ⟨b, o, e, hl, hc⟩ := h h0
 exact ⟨b, o, e, Nat.lt_of_lt_of_le hl hb.size, fun i hi => by rw [hb.cell hl]; exact hc i hi⟩
def MarksLt (C : Nat) (ds : List Deferred) : Prop := ∀ d ∈ ds, ∀ D, d.target = .collected D -> D < C
theorem Marks.lt {B : Nat} {w : World} : ∀ {ds : List Deferred}, Marks B w ds -> MarksLt w.heap.size ds
 | [], _ => fun d hd => by cases hd
 | d :: ds, ⟨⟨D, e1, e2, e3, e4⟩, h⟩ => fun e he D' hD' => by
   rcases List.mem_cons.1 he with rfl | he
   · rw [e1] at hD'; cases hD'; exact heap_lt' e3
   · exact h.lt e he D' hD'
theorem Marks.kept {B : Nat} {W W' : World} {row : Option Nat} (hg : W.grownBy W' row) : ∀ {ds : List Deferred}, Marks B W ds -> (∀ k, row = some k -> (∃ cs t fr, W.heap[k]? = some (.cells cs t fr)) ∨ ∀ d ∈ ds, d.target ≠ .collected k) -> Marks B W' ds
 | [], _, _ => trivial
 | d :: ds, ⟨⟨D, e1, e2, e3, e4⟩, h⟩, hr => by
   refine ⟨⟨D, e1, e2, ?_, e4⟩, h.kept hg fun k hk => (hr k hk).elim .inl fun z => .inr fun e he => z e (List.mem_cons_of_mem _ he)⟩
   rw [hg.block D (heap_lt' e3) (fun e => ?_)]
   · exact e3
   · rcases hr D e.symm with ⟨cs, tt, fr, hc⟩ | hz
     · rw [e3] at hc; cases hc
     · exact hz d (List.mem_cons_self ..) (by rw [e1])
def valN (ms : List Nat) : List Value := ms.map fun a => .int .i64 ((a : Nat) : Int)
structure ES (w : World) (G : Array Value) (ds : List Deferred) (v : Value) (ms : List Nat) (W : World) : Prop where
 g : GB w G W
 m : Marks w.heap.size W ds
 b : Boxed W (w.heap.size + 1 + 1) 22 v
 r : W.ownsRow w.heap.size 3 1 v ms.length (valN ms)
theorem ES.kept {w W W' : World} {G : Array Value} {ds : List Deferred} {v : Value} {ms : List Nat} {row : Option Nat} (h : ES w G ds v ms W) (hg : W.grownBy W' row) (hr : ∀ k, row = some k -> w.heap.size <= k /\ (∃ o, W.heap[k]? = some o /\ o.isCells = false) /\ ∀ d ∈ ds, d.target ≠ .collected k) : ES w G ds v ms W' := by
 have ne : ∀ k cs t fr, W.heap[k]? = some (.cells cs t fr) -> some k ≠ row := fun k cs t fr hk e => by
   obtain ⟨_, ⟨o, ho, hc⟩, _⟩ := hr k e.symm
   rw [hk] at ho; cases ho; cases hc
 refine ⟨⟨h.g.b.grown hg h.g.b.size (fun k hk => (hr k hk).1), ?_⟩, h.m.kept hg fun k hk => .inr (hr k hk).2.2, h.b.kept hg (ne _ _ _ _ h.b), h.r.kept hg ?_⟩
 · unfold BoxIs; rw [hg.block _ (heap_lt' h.g.g) (ne _ _ _ _ h.g.g)]; exact h.g.g
 · rcases h.r.2 with ⟨e, _⟩ | ⟨g, cap, cur, e, _, hgb, _⟩
   · exact .inl (by rw [e]; rfl)
   · refine .inr (fun e' => ne _ _ _ _ hgb ?_)
     rw [← e', e]; rfl
theorem ES.alloc {w W : World} {G : Array Value} {ds : List Deferred} {v : Value} {ms : List Nat} (h : ES w G ds v ms W) (o : Obj) : ES w G ds v ms (W.alloc o) := h.kept (World.grownBy_alloc W o none) (by simp)
theorem Marks.others {B : Nat} {W W' : World} (hk : KeepsOthers W W') : ∀ {ds : List Deferred}, Marks B W ds -> Marks B W' ds
 | [], _ => trivial
 | d :: ds, ⟨⟨D, e1, e2, e3, e4⟩, h⟩ => ⟨⟨D, e1, e2, hk.same D _ e3 rfl, e4⟩, h.others hk⟩
theorem append_block {W w1 : World} {tmp : Obj} {v v' : Value} {B q : Nat} (hgrow : (W.alloc tmp).grownBy w1 v.ownBlock) (h1 : q ≠ B) (h2 : some q ≠ v.ownBlock) : ∀ o, W.heap[q]? = some o -> (w1.setCell ⟨B, 0, none⟩ v').heap[q]? = some o := fun o ho => by
 rw [(grownBy_setCell' w1 B v').block q (Nat.lt_of_lt_of_le (heap_lt' ho) (Nat.le_trans (by simp) hgrow.size)) (by simpa using h1)]
 rw [hgrow.block q (by have := heap_lt' ho; simp; omega) h2]
 rw [heapOld _ _ (heap_lt' ho)]
 exact ho
theorem row_ge {w : World} {base : Nat} {e : TypeId} {size : Nat} {v : Value} {n : Nat} {xs : List Value} (h : w.ownsRow base e size v n xs) {q : Nat} (hq : q < base) : some q ≠ v.ownBlock := by
 rcases h.2 with ⟨e1, _⟩ | ⟨g, cap, cur, e1, e2, _⟩
 · subst e1; simp [Value.ownBlock]
 · subst e1; simp [Value.ownBlock]; omega
theorem infoI : (Tryz.prog.info? 3).map (fun i => (i.zero, i.size, i.bytes)) = some (some (.int .i64 0), 1, 8) := by kernel_rfl
theorem valN_app (a b : List Nat) : valN (a ++ b) = valN a ++ valN b := by simp [valN]
theorem ES.slice {w W : World} {G : Array Value} {ds : List Deferred} {v : Value} {ms : List Nat} (h : ES w G ds v ms W) : ∃ va vc, v = .slice va ms.length vc := by
 rcases h.r.2 with ⟨e, h0⟩ | ⟨g, cap, cur, e, _⟩
 · exact ⟨_, _, by rw [e, h0]⟩
 · exact ⟨_, _, e⟩
theorem ES.top {w W : World} {G : Array Value} {ds : List Deferred} {v : Value} {ms : List Nat} {t : Nat} (h : ES w G ds v (ms ++ [t]) W) : ∃ g cap, v = .slice (some ⟨g, 0, none⟩) (ms.length + 1) cap /\ g < W.heap.size /\ ms.length + 1 <= cap /\ W.cell? ⟨g, ms.length, none⟩ = some (.int .i64 (t : Nat)) := by
 obtain ⟨g, cap, cur, e1, e2, e3, e4, e5, e6⟩ := own_cells h.r (fun e => by
   rcases h.r.2 with ⟨_, e2⟩ | ⟨g, cap, cur, e1, _⟩
   · simp at e2
   · rw [e] at e1; cases e1)
 rw [List.length_append] at e1 e4 e6
 refine ⟨g, cap, e1, heap_lt' e3, e4, ?_⟩
 simp only [World.cell?, e3]
 rw [e6 ms.length (by simp)]
 simp [valN]
theorem run_neq_nilFunc : ∀ w, (binOp .neq 151 .nilFunc .nilFunc).run Tryz.prog w = .ok (.bool false) w := fun w => by kernel_rfl
theorem ES.pop {w W : World} {G : Array Value} {ds : List Deferred} {g cap : Nat} {ms : List Nat} {t : Nat} (h : ES w G ds (.slice (some ⟨g, 0, none⟩) (ms.length + 1) cap) (ms ++ [t]) W) : ES w G ds (.slice (some ⟨g, 0, none⟩) ms.length cap) ms (W.setCell ⟨w.heap.size + 1 + 1, 0, none⟩ (.slice (some ⟨g, 0, none⟩) ms.length cap)) := by
 have hg := grownBy_setCell' W (w.heap.size + 1 + 1) (.slice (some ⟨g, 0, none⟩) ms.length cap)
 refine ⟨⟨h.g.b.grown hg h.g.b.size (fun k hk => by cases hk; omega), ?_⟩, h.m.kept hg (fun k hk => by cases hk; exact .inl ⟨_, _, _, h.b⟩), h.b.set _, ?_⟩
 · unfold BoxIs; rw [hg.block _ (heap_lt' h.g.g) (by simp; omega)]; exact h.g.g
 · have hr : W.ownsRow w.heap.size 3 1 (.slice (some ⟨g, 0, none⟩) ms.length cap) ms.length (valN ms) := by
     rcases h.r.2 with ⟨e, _⟩ | ⟨g', cap', cur, e, e2, e3, e4, e5, e6, e7⟩
     · cases e
     · simp only [Value.slice.injEq, Option.some.injEq, Addr.mk.injEq] at e
       obtain ⟨⟨rfl, _⟩, _, rfl⟩ := e
       rw [List.length_append] at e4 e7
       refine ⟨by simp [valN], .inr ⟨g, cap, cur, rfl, e2, e3, by simp at e4; omega, e5, e6, ?_⟩⟩
       have : (cur.toList.take ((ms.length + 1) * 1)).take (ms.length * 1) = (valN (ms ++ [t])).take (ms.length * 1) := by rw [← e7]; rfl
       rw [List.take_take] at this
       rw [show min (ms.length * 1) ((ms.length + 1) * 1) = ms.length * 1 by omega] at this
       rw [this]
       simp [valN]
   exact hr.kept hg (.inr (h.b.not_row (by decide) hr).symm)
def EInv (c0 c1 c2 c3 c5 : Value) (rs : List Rl) (rb ro rc : Nat) (pa : Option Addr) (pc : Nat) (p : List Int) (at0 s : Nat) (w : World) (a' : Act) (w' : World) : Prop :=
 ∃ (ds : List Deferred) (v : Value) (ms : List Nat) (k : Nat) (u : Nat -> Value), (k <= p.length /\ ms.length <= 1 + 3 * k /\ ES w #[c0, c1, c2, c3, .slice (some ⟨rb, ro, none⟩) rs.length rc, c5] ds v ms w' /\ Hid (eat rs [s] (p.drop at0) = (eat rs ms.reverse (p.drop (at0 + k))).map (k + ·))) /\ a' = { tmps := #[.agg #[c0, c1, c2, c3, .slice (some ⟨rb, ro, none⟩) rs.length rc, c5], .slice pa p.length pc, .int .i64 ((at0 + k : Nat) : Int), u 3, .nilFunc, .pointer (some ⟨w.heap.size, 0, none⟩), undef, undef, undef, undef, u 10, u 11, .pointer (some ⟨w.heap.size + 1 + 1, 0, none⟩), u 13, u 14, undef, u 16, .int .i64 s, .slice (some ⟨w.heap.size + 1, 0, none⟩) 1 1, u 19, u 20, u 21, u 22, u 23, u 24, u 25, u 26, u 27, u 28, u 29, u 30, u 31, u 32, u 33, u 34, u 35, u 36, u 37, u 38, u 39, u 40, u 41, u 42, u 43, u 44, u 45, u 46, u 47, u 48, u 49, u 50, u 51, u 52, u 53, u 54, u 55, u 56, u 57, u 58, u 59, u 60, u 61, u 62, u 63, u 64, u 65, u 66, u 67, u 68, u 69, u 70, u 71, u 72, u 73, u 74, u 75, u 76, u 77, u 78, u 79, u 80, u 81], defers := ds }
theorem EInv.mk' {c0 c1 c2 c3 c5 : Value} {rs : List Rl} {rb ro rc : Nat} {pa : Option Addr} {pc : Nat} {p : List Int} {at0 s : Nat} {w : World} {a : Act} {W : World} (ds : List Deferred) (v : Value) (ms : List Nat) (k : Nat) (h1 : k <= p.length) (h2 : ms.length <= 1 + 3 * k) (h3 : ES w #[c0, c1, c2, c3, .slice (some ⟨rb, ro, none⟩) rs.length rc, c5] ds v ms W) (h4 : eat rs [s] (p.drop at0) = (eat rs ms.reverse (p.drop (at0 + k))).map (k + ·)) (ha : a = { tmps := #[.agg #[c0, c1, c2, c3, .slice (some ⟨rb, ro, none⟩) rs.length rc, c5], .slice pa p.length pc, .int .i64 ((at0 + k : Nat) : Int), a.tmps.getD 3 undef, .nilFunc, .pointer (some ⟨w.heap.size, 0, none⟩), undef, undef, undef, undef, a.tmps.getD 10 undef, a.tmps.getD 11 undef, .pointer (some ⟨w.heap.size + 1 + 1, 0, none⟩), a.tmps.getD 13 undef, a.tmps.getD 14 undef, undef, a.tmps.getD 16 undef, .int .i64 s, .slice (some ⟨w.heap.size + 1, 0, none⟩) 1 1, a.tmps.getD 19 undef, a.tmps.getD 20 undef, a.tmps.getD 21 undef, a.tmps.getD 22 undef, a.tmps.getD 23 undef, a.tmps.getD 24 undef, a.tmps.getD 25 undef, a.tmps.getD 26 undef, a.tmps.getD 27 undef, a.tmps.getD 28 undef, a.tmps.getD 29 undef, a.tmps.getD 30 undef, a.tmps.getD 31 undef, a.tmps.getD 32 undef, a.tmps.getD 33 undef, a.tmps.getD 34 undef, a.tmps.getD 35 undef, a.tmps.getD 36 undef, a.tmps.getD 37 undef, a.tmps.getD 38 undef, a.tmps.getD 39 undef, a.tmps.getD 40 undef, a.tmps.getD 41 undef, a.tmps.getD 42 undef, a.tmps.getD 43 undef, a.tmps.getD 44 undef, a.tmps.getD 45 undef, a.tmps.getD 46 undef, a.tmps.getD 47 undef, a.tmps.getD 48 undef, a.tmps.getD 49 undef, a.tmps.getD 50 undef, a.tmps.getD 51 undef, a.tmps.getD 52 undef, a.tmps.getD 53 undef, a.tmps.getD 54 undef, a.tmps.getD 55 undef, a.tmps.getD 56 undef, a.tmps.getD 57 undef, a.tmps.getD 58 undef, a.tmps.getD 59 undef, a.tmps.getD 60 undef, a.tmps.getD 61 undef, a.tmps.getD 62 undef, a.tmps.getD 63 undef, a.tmps.getD 64 undef, a.tmps.getD 65 undef, a.tmps.getD 66 undef, a.tmps.getD 67 undef, a.tmps.getD 68 undef, a.tmps.getD 69 undef, a.tmps.getD 70 undef, a.tmps.getD 71 undef, a.tmps.getD 72 undef, a.tmps.getD 73 undef, a.tmps.getD 74 undef, a.tmps.getD 75 undef, a.tmps.getD 76 undef, a.tmps.getD 77 undef, a.tmps.getD 78 undef, a.tmps.getD 79 undef, a.tmps.getD 80 undef, a.tmps.getD 81 undef], defers := ds }) : EInv c0 c1 c2 c3 c5 rs rb ro rc pa pc p at0 s w a W :=
 ⟨ds, v, ms, k, fun n => a.tmps.getD n undef, ⟨h1, h2, h3, Lib.hid h4⟩, ha⟩
theorem end_any (c0 c1 c2 c3 c5 : Value) (rs : List Rl) (rb ro rc : Nat) (pa : Option Addr) (pc : Nat) (p : List Int) (at0 s : Nat) (w : World) (hR : RulesAt w (some ⟨rb, ro, none⟩) rs) (hp : ListAt w pa p) (hal : ∀ r ∈ rs, r.args.length <= 3) (hrn : rs.length <= 40) (hpn : p.length <= 100) (hat : at0 <= 100) (R : Value) (hRt : ∀ n, eat rs [s] (p.drop at0) = some n -> R = .tuple #[.int .i64 ((at0 + n : Nat) : Int), .bool true]) (hRf : eat rs [s] (p.drop at0) = none -> R = .tuple #[.int .i64 0, .bool false]) :
   Calls Tryz.prog 49 #[.agg #[c0, c1, c2, c3, .slice (some ⟨rb, ro, none⟩) rs.length rc, c5], .slice pa p.length pc, .int .i64 at0, .int .i64 s, .nilFunc] w fun e w' => e = .returned R /\ Below w.heap.size w w' := by
 refine (callsIn_wide (n := 5)).1 ?_
 refine callsIn_of_wp_marks Tryz.func49 rfl trivial ?_ rfl
 simp only [Tryz.ntmps49, List.size_toArray, List.length_cons, List.length_nil, Nat.reduceAdd, Nat.reduceSub, Array.replicate_succ, Array.replicate_zero, List.push_toArray, List.append_toArray, List.nil_append, List.cons_append]
 obtain ⟨rb', ro', e', hrb, hrc⟩ := hR
 cases e'
 have HRC := Lib.hid hrc
 have HP := Lib.hid (fun W (hW : Below w.heap.size w W) => hp.below hW)
 have HRT := Lib.hid hRt
 have HRF := Lib.hid hRf
 have HAL := Lib.hid hal
 clear hrc hp hRt hRf hal
 gi_wp2
 have z1 := sizeNew w (.cells #[c0, c1, c2, c3, .slice (some ⟨rb, ro, none⟩) rs.length rc, c5] 29)
 have z2 := sizeNew (w.alloc (.cells #[c0, c1, c2, c3, .slice (some ⟨rb, ro, none⟩) rs.length rc, c5] 29)) (.cells #[.int .i64 s] 3)
 have HE : ES w #[c0, c1, c2, c3, .slice (some ⟨rb, ro, none⟩) rs.length rc, c5] [] (.slice (some ⟨w.heap.size + 1, 0, none⟩) 1 1) [s] (((w.alloc (.cells #[c0, c1, c2, c3, .slice (some ⟨rb, ro, none⟩) rs.length rc, c5] 29)).alloc (.cells #[.int .i64 s] 3)).alloc (.cells #[.slice (some ⟨w.heap.size + 1, 0, none⟩) 1 1] 22)) := by
   refine ⟨⟨(((Below.refl _ _).alloc (Nat.le_refl _) _).alloc (by simp) _).alloc (by simp; omega) _, ?_⟩, trivial, ?_, rfl, .inr ⟨w.heap.size + 1, 1, #[.int .i64 s], rfl, by omega, ?_, Nat.le_refl _, by decide, rfl, rfl⟩⟩
   · unfold BoxIs; rw [heapOld _ _ (by simp; omega), heapOld _ _ (by simp)]; exact heapNew _ _
   · show (World.heap _)[_]? = _
     rw [← z1, ← z2]; exact heapNew _ _
   · rw [heapOld _ _ (by simp), ← z1]; exact heapNew _ _
 generalize (((w.alloc (.cells #[c0, c1, c2, c3, .slice (some ⟨rb, ro, none⟩) rs.length rc, c5] 29)).alloc (.cells #[.int .i64 s] 3)).alloc (.cells #[.slice (some ⟨w.heap.size + 1, 0, none⟩) 1 1] 22)) = w1 at *
 clear z1 z2
 refine wpIn_loop (EInv c0 c1 c2 c3 c5 rs rb ro rc pa pc p at0 s w)
   (fun a' _ => p.length + at0 + 1 - (RowKit.intOf (a'.tmps.getD 2 undef)).toNat) ?start ?round
 case start =>
   refine ⟨[], _, [s], 0, fun n => Array.getD #[.agg #[c0, c1, c2, c3, .slice (some ⟨rb, ro, none⟩) rs.length rc, c5], .slice pa p.length pc, .int .i64 at0, .int .i64 s, .nilFunc, .pointer (some ⟨w.heap.size, 0, none⟩), undef, undef, undef, undef, .int .i64 0, .bool false, .pointer (some ⟨w.heap.size + 1 + 1, 0, none⟩), undef, undef, undef, undef, .int .i64 s, .slice (some ⟨w.heap.size + 1, 0, none⟩) 1 1, undef, undef, undef, undef, undef, undef, undef, undef, undef, undef, undef, undef, undef, undef, undef, undef, undef, undef, undef, undef, undef, undef, undef, undef, undef, undef, undef, undef, undef, undef, undef, undef, undef, undef, undef, undef, undef, undef, undef, undef, undef, undef, undef, undef, undef, undef, undef, undef, undef, undef, undef, undef, undef, undef, undef, undef, undef, undef, undef, undef, undef, undef, undef] n undef, ⟨Nat.zero_le _, by simp, HE, Lib.hid ?_⟩, rfl⟩
   rw [Nat.add_zero, List.reverse_singleton]
   cases eat rs [s] (p.drop at0) <;> simp
 case round =>
   clear HE
   rintro a' wr ⟨ds, v, ms, k, u, ⟨hk, hml, hE, HQ⟩, rfl⟩
   have lg := heap_lt' hE.g.g
   have lb := hE.b.lt
   have bx := hE.b.cell
   have bf := hE.b.frozen
   have g4 := cellOf (i := 4) hE.g.g rfl
   rcases List.eq_nil_or_concat ms with rfl | ⟨ms', t, e⟩
   · obtain ⟨va, vc, rfl⟩ := hE.slice
     have hq := HQ.out
     rw [List.reverse_nil, eat_nil] at hq
     have hq := Lib.hid (HRT.out k hq)
     clear HQ
     gi_wp2
     refine leaves_marks ds _ hE.m (fun w' hw' => ⟨.tuple #[.int .i64 ((at0 : Int) + (k : Int)), .bool true], by simp [results, Tryz.results49, go_sem], ?_, hE.g.b.trans hw'⟩)
     rw [hq.out]; simp
   · rw [List.concat_eq_append] at e
     subst e
     obtain ⟨gq, cap, rfl, hgl, hcap, ct⟩ := hE.top
     have hq := HQ.out
     rw [List.reverse_append, List.reverse_singleton, List.singleton_append] at hq
     have HQ := Lib.hid hq
     have hE5 := hE.pop
     rw [List.length_append] at hml
     have hm1 : ms'.length <= 3 * k := by simp at hml; omega
     have hgm : gq ≠ w.heap.size + 1 + 1 := fun e => hE.b.not_row (by decide) hE.r (by simp [Value.ownBlock, e])
     have j1 : (0 : Int) <= (ms'.length : Int) + 1 - 1 := by omega
     have j2 : (ms'.length : Int) + 1 - 1 < (ms'.length : Int) + 1 := by omega
     have j3 : ((ms'.length : Int) + 1 - 1).toNat = ms'.length := by omega
     have j4 : (ms'.length : Int) + 1 - 1 <= (cap : Int) := by omega
     have j5 : (0 : Int) < (ms'.length : Int) + 1 := by omega
     have j6 : (ms'.length : Int) <= 300 := by omega
     have hHP := HP.out _ hE5.g.b
     clear hq hml hE
     by_cases hA : at0 + k < p.length
     · have i1 : (at0 : Int) + (k : Int) < (p.length : Int) := by omega
       have i2 : (0 : Int) <= (at0 : Int) + (k : Int) := by omega
       have i3 : ((at0 : Int) + (k : Int)).toNat = at0 + k := by omega
       have i4 : (at0 : Int) + (k : Int) <= 300 := by omega
       obtain ⟨pb, po, rfl, hpb, hpc⟩ := hHP (by omega)
       have cp := hpc _ hA
       have hcons : p.drop (at0 + k) = p[at0 + k] :: p.drop (at0 + k + 1) := List.drop_eq_getElem_cons hA
       have hq := HQ.out
       rw [hcons] at hq
       have HQ := Lib.hid hq
       have g4' := cellOf (i := 4) hE5.g.g rfl
       have bx' := hE5.b.cell
       have bf' := hE5.b.frozen
       have lg' := heap_lt' hE5.g.g
       clear hq hcons hpc
       by_cases hB : p[at0 + k] = -1
       · rw [hB] at cp
         have hq := HQ.out
         rw [hB, eat_hole, Option.map_map] at hq
         have HQ := Lib.hid hq
         clear hq
         have hnf := run_neq_nilFunc
         gi_wp2
         have e1 : (at0 : Int) + (k : Int) + 1 = ((at0 + (k + 1) : Nat) : Int) := by omega
         rw [e1]
         refine ⟨EInv.mk' ds _ ms' (k + 1) (by omega) (by omega) hE5 ?_ rfl, ?_⟩
         · rw [HQ.out, show at0 + (k + 1) = at0 + k + 1 by omega]
           congr 1
           funext x
           show k + (x + 1) = k + 1 + x
           omega
         · show p.length + at0 + 1 - ((at0 + (k + 1) : Nat) : Int).toNat < p.length + at0 + 1 - ((at0 + k : Nat) : Int).toNat
           omega
       · have hBb : (p[at0 + k] == -1) = false := by simpa using hB
         by_cases hD : ∃ (r : Nat) (hr : r < rs.length), p[at0 + k] = r /\ rs[r].h = t
         · obtain ⟨r, hrl, hr, hs⟩ := hD
           have hq := HQ.out
           rw [hr, eat_rule rs t _ _ r hrl hs, Option.map_map] at hq
           have HQ := Lib.hid hq
           obtain ⟨aa, ac, hw⟩ := HRC.out r hrl
           have h := hw.below hrb hE5.g.b
           have hrb5 : rb < _ := Nat.lt_of_lt_of_le hrb hE5.g.b.size
           have q0 := h.c0
           have q3 := h.c3
           obtain ⟨ab, ao, rfl⟩ := h.sm
           have HA := Lib.hid hw.args
           have hl3 := HAL.out _ (List.getElem_mem hrl)
           rw [hs] at q0
           rw [hr] at cp hBb
           have hne : ((t : Int) != (t : Int)) = false := by simp
           have n0 : ¬ (r : Int) < 0 := by omega
           have n1 : (0 : Int) <= (r : Int) := by omega
           have n2 : (r : Int) < (rs.length : Int) := by omega
           clear hq h hw hB hs
           gi_wp2_with (refine ⟨trivial, ?_⟩; gi_at_call 107; refine (backward_in Fence.wide _ trivial rfl _ _ _ _).mono ?_; rintro e w' ⟨rfl, rfl⟩)
           have hE0 := hE5.alloc (.cells #[.slice (some ⟨ab, ao, none⟩) rs[r].args.length ac] 22)
           have hBs := cellOf (i := 0) (heapNew (wr.setCell ⟨w.heap.size + 1 + 1, 0, none⟩ (.slice (some ⟨gq, 0, none⟩) ms'.length cap)) (.cells #[.slice (some ⟨ab, ao, none⟩) rs[r].args.length ac] 22)) rfl
           have hBx0 : Boxed _ (wr.setCell ⟨w.heap.size + 1 + 1, 0, none⟩ (.slice (some ⟨gq, 0, none⟩) ms'.length cap)).heap.size 22 _ := heapNew (wr.setCell ⟨w.heap.size + 1 + 1, 0, none⟩ (.slice (some ⟨gq, 0, none⟩) ms'.length cap)) (.cells #[.slice (some ⟨ab, ao, none⟩) rs[r].args.length ac] 22)
           have hbs0 := sizeNew (wr.setCell ⟨w.heap.size + 1 + 1, 0, none⟩ (.slice (some ⟨gq, 0, none⟩) ms'.length cap)) (.cells #[.slice (some ⟨ab, ao, none⟩) rs[r].args.length ac] 22)
           have hmbs := hE5.b.lt
           have hz5 : (wr.setCell ⟨w.heap.size + 1 + 1, 0, none⟩ (.slice (some ⟨gq, 0, none⟩) ms'.length cap)).heap.size = wr.heap.size := by simp
           rw [hz5] at hBs hbs0 hmbs hBx0
           clear hrb5 hHP hpb hz5
           clear bx bf bx' bf' g4 g4' cp q0 q3 ct hE5 lg lb lg' hgl
           generalize ((wr.setCell ⟨w.heap.size + 1 + 1, 0, none⟩ (.slice (some ⟨gq, 0, none⟩) ms'.length cap)).alloc (.cells #[.slice (some ⟨ab, ao, none⟩) rs[r].args.length ac] 22)) = W0 at *
           generalize wr.heap.size = Bs at *
           have hA0 := HA.out.below hE0.g.b
           have hcA : ∀ j (hj : j < rs[r].args.length), W0.cell? ⟨ab, ao + j, none⟩ = some (.int .i64 rs[r].args[j]) := fun j hj => by
             obtain ⟨b', o', e', hb', hc'⟩ := hA0 (by omega)
             cases e'
             exact hc' j hj
           have hab : 0 < rs[r].args.length -> ab < w.heap.size := fun h0 => by
             obtain ⟨b', o', e', hb', _⟩ := HA.out h0
             cases e'
             exact hb'
           obtain ⟨ab', hbb, hab'⟩ : ∃ ab', (0 < rs[r].args.length -> ab = ab') /\ (ab' < w.heap.size ∨ ab' = Bs) := by
             by_cases h0 : 0 < rs[r].args.length
             · exact ⟨ab, fun _ => rfl, .inl (hab h0)⟩
             · exact ⟨Bs, fun h => absurd h h0, .inr rfl⟩
           have hge := hE0.g.b.size
           have hML := hE0.m.lt
           obtain ⟨iI, hiI, ha0, ha1, ha2⟩ := info_parts infoI
           refine wpIn_rangeFunc_ownG (w0 := W0) rfl (by omega) (gf := 162) (lb := #[.pointer (some ⟨Bs, 0, none⟩)]) rfl trivial (enters_of Tryz.func162 (by kernel_rfl) rfl)
             (backward_stops Fence.wide (5 - 1) trivial rfl (by omega) Bs ab ab' ao ac rs[r].args hl3 hbb W0 hBs hcA) (fun h k => h.trans k) (fun W l o o' hl ho _ _ => KB.put o' (by omega) (by omega)) (Below.refl _ _) (fun _ => rfl)
             (fun pre W => (∃ v, ES w #[c0, c1, c2, c3, .slice (some ⟨rb, ro, none⟩) rs.length rc, c5] ds v (ms' ++ pre.map (·.2)) W) /\ Boxed W Bs 22 (.slice (some ⟨ab, ao, none⟩) rs[r].args.length ac)) (fun _ _ _ => False)
             (fun pre X Y row ⟨⟨v, h⟩, hx⟩ hg hr => ⟨⟨v, h.kept hg fun q hq => ⟨by have := (hr q hq).1; omega, (hr q hq).2, fun d hd e => by have := hML d hd q e; have := (hr q hq).1; omega⟩⟩, hx.kept hg fun e => by
               obtain ⟨_, o, ho, hc⟩ := hr Bs e.symm
               rw [show X.heap[Bs]? = _ from hx] at ho; cases ho; cases hc⟩)
             (fun _ _ _ _ _ h _ _ => h) ⟨⟨_, by rw [List.map_nil, List.append_nil]; exact hE0⟩, hBx0⟩ ?a1 ?assign ?body ?done ?stop
           case assign =>
             intro l x W K hK
             gi_wp2
             exact hK
           case body =>
             rintro l pre x W ⟨⟨v, hE⟩, hBx⟩ hlen
             have hln : (ms' ++ pre.map (·.2)).length <= 303 := by rw [List.length_append, List.length_map]; omega
             have HL : Hid (∀ x : Nat × Nat, ms' ++ (pre ++ [x]).map (·.2) = (ms' ++ pre.map (·.2)) ++ [x.2]) := Lib.hid fun x => by simp
             generalize ms' ++ pre.map (·.2) = L at *
             obtain ⟨va, vc, rfl⟩ := hE.slice
             have bx := hE.b.cell
             have bf := hE.b.frozen
             have hbW := hE.g.b.size
             have hEr := hE.r
             have HE := Lib.hid hE
             have n1 : some Bs ≠ (Value.slice va L.length vc).ownBlock := hBx.not_row (by decide) hE.r
             have n2 : some ab' ≠ (Value.slice va L.length vc).ownBlock := by
               rcases hab' with h | h
               · exact row_ge hE.r h
               · rw [h]; exact n1
             have n3 : some w.heap.size ≠ (Value.slice va L.length vc).ownBlock := by
               have := hE.g.g
               rcases hE.r.2 with ⟨e, _⟩ | ⟨g, cp, cur, e, _, hgb, _⟩
               · rw [e]; simp [Value.ownBlock]
               · rw [e]; intro e'
                 obtain rfl : w.heap.size = g := by simpa [Value.ownBlock] using e'
                 unfold BoxIs at this
                 rw [hgb] at this; cases this
             clear hE
             gi_wp2_with (gi_at_builtin; refine wpListIn_append_own _ rfl _ _ 22 rfl w.heap.size 3 iI _ 1 8 Tryz.underlying22 hiI ha0 ha1 ha2 rfl (by decide) _ _ _ rfl (hEr.alloc _) ⟨W.heap.size, 0, none⟩ 1 1 [.int .i64 x.2] rfl rfl (cell_one_new _ _ _) (by simp [Value.oneCell']) (by unfold maxLen; omega) (by omega) (by simp; omega) ?_; intro v' w1 hown' hgrow _; obtain ⟨g', cap', rfl⟩ := ownsRow_succ hown'; obtain ⟨hv1, hv2, hr2, hk2, hb2⟩ := HE.out.b.appended (by decide) hEr hbW (by omega) hown' hgrow; have hc1 := hv1.cell; have hf1 := hv1.frozen)
             refine ⟨hk2.from _, ⟨append_block hgrow (by omega) n1, append_block hgrow (by omega) n2⟩, ⟨_, ⟨HE.out.g.b.trans hb2, append_block hgrow (by omega) n3 _ HE.out.g.g⟩, HE.out.m.others hk2, hv2, ?_⟩, append_block hgrow (by omega) n1 _ hBx⟩
             rw [HL.out, List.length_append, valN_app]
             exact hr2
           case done =>
             rintro D ys W hD rfl ⟨⟨v, hE⟩, _⟩ hK
             rw [bwd_all] at hE
             have hmk : Marks w.heap.size W ({ target := .collected D, args := #[] } :: ds) := ⟨⟨D, rfl, by omega, hK, fun e he h => by have := hML e he D h; omega⟩, hE.m⟩
             gi_wp2
             have e1 : (at0 : Int) + (k : Int) + 1 = ((at0 + (k + 1) : Nat) : Int) := by omega
             rw [e1]
             refine ⟨EInv.mk' _ _ (ms' ++ rs[r].args.reverse) (k + 1) (by omega) (by rw [List.length_append, List.length_reverse]; omega) ⟨hE.g, hmk, hE.b, hE.r⟩ ?_ rfl, ?_⟩
             · rw [HQ.out, show at0 + (k + 1) = at0 + k + 1 by omega, List.reverse_append, List.reverse_reverse]
               congr 1
               funext x
               show k + (x + 1) = k + 1 + x
               omega
             · show p.length + at0 + 1 - ((at0 + (k + 1) : Nat) : Int).toNat < p.length + at0 + 1 - ((at0 + k : Nat) : Int).toNat
               omega
           case stop =>
             rintro D c pre W _ _ h _
             exact h.elim
         · have hq := HQ.out
           rw [eat_bad rs t _ _ _ hB (fun r hr hlt hs => hD ⟨r, hlt, hr, hs⟩), Option.map_none] at hq
           have hq := Lib.hid (HRF.out hq)
           clear HQ
           by_cases hneg : p[at0 + k] < 0
           · clear hD hB
             gi_wp2
             refine leaves_marks ds _ hE5.m (fun w' hw' => ⟨.tuple #[.int .i64 0, .bool false], by simp [results, Tryz.results49, go_sem], by rw [hq.out], hE5.g.b.trans hw'⟩)
           · by_cases hbig : (rs.length : Int) <= p[at0 + k]
             · clear hD hB
               gi_wp2
               refine leaves_marks ds _ hE5.m (fun w' hw' => ⟨.tuple #[.int .i64 0, .bool false], by simp [results, Tryz.results49, go_sem], by rw [hq.out], hE5.g.b.trans hw'⟩)
             · obtain ⟨r, hr⟩ : ∃ r : Nat, p[at0 + k] = r := ⟨(p[at0 + k]).toNat, by omega⟩
               have hrl : r < rs.length := by omega
               have hne : ((rs[r].h : Int) != (t : Int)) = true := by
                 simp; intro e; exact hD ⟨r, hrl, hr, by omega⟩
               obtain ⟨aa, ac, hw⟩ := HRC.out r hrl
               have h := hw.below hrb hE5.g.b
               have hrb5 : rb < _ := Nat.lt_of_lt_of_le hrb hE5.g.b.size
               have q0 := h.c0
               rw [hr] at cp hBb hneg hbig
               clear hD hB hr h hw
               have n1 : (0 : Int) <= (r : Int) := by omega
               have n2 : (r : Int) < (rs.length : Int) := by omega
               gi_wp2
               refine leaves_marks ds _ hE5.m (fun w' hw' => ⟨.tuple #[.int .i64 0, .bool false], by simp [results, Tryz.results49, go_sem], by rw [hq.out], hE5.g.b.trans hw'⟩)
     · have i1 : (p.length : Int) <= (at0 : Int) + (k : Int) := by omega
       have hq := HQ.out
       have hd : p.drop (at0 + k) = [] := List.drop_eq_nil_of_le (by omega)
       rw [hd, eat_end, Option.map_none] at hq
       clear hd
       have hq := Lib.hid (HRF.out hq)
       clear HQ
       gi_wp2
       refine leaves_marks ds _ hE5.m (fun w' hw' => ⟨.tuple #[.int .i64 0, .bool false], by simp [results, Tryz.results49, go_sem], by rw [hq.out], hE5.g.b.trans hw'⟩)
end Go.EvPart
namespace Go.EvPart.N
open Go Go.Proofs Go.RowKit Go.EvNil
def OwnN (base : Nat) (l : List (ByteArray × Nat)) (k : Nat) (v : Value) (w : World) : Prop := w.ownsRow base 9 1 v k ((l.take k).map fun c => .string c.1)
theorem OwnN.below {base : Nat} {l : List (ByteArray × Nat)} {k : Nat} {v : Value} {w w' : World} (h : OwnN base l k v w) (hb : Below w.heap.size w w') : OwnN base l k v w' := ownsRow_below'' h hb
theorem OwnN.ge {base : Nat} {l : List (ByteArray × Nat)} {k : Nat} {v : Value} {w : World} (h : OwnN base l k v w) : ∀ g, v.ownBlock = some g -> base <= g := fun g hg => by
 rcases Nat.lt_or_ge g base with hl | hl
 · exact absurd hg.symm (row_ge h hl)
 · exact hl
theorem OwnN.form {base : Nat} {l : List (ByteArray × Nat)} {k : Nat} {v : Value} {w : World} (h : OwnN base l k v w) : ∃ a c, v = .slice a k c := by
 rcases h.2 with ⟨e, h0⟩ | ⟨g, cap, cur, e, _⟩
 · exact ⟨_, _, by rw [e, h0]⟩
 · exact ⟨_, _, e⟩
theorem OwnN.snoc {base : Nat} {l : List (ByteArray × Nat)} {k : Nat} {v : Value} {w : World} (hk : k < l.length) (h : w.ownsRow base 9 1 v (k + 1) (((l.take k).map fun c => .string c.1) ++ [.string l[k].1])) : OwnN base l (k + 1) v w := by
 unfold OwnN
 rw [List.take_succ_eq_append_getElem hk, List.map_append]
 exact h
theorem OwnN.strs {base : Nat} {l : List (ByteArray × Nat)} {w : World} {a : Option Addr} {c : Nat} (h : OwnN base l l.length (.slice a l.length c) w) : 0 < l.length -> ∃ b o, a = some ⟨b, o, none⟩ /\ b < w.heap.size /\ ∀ i, i < l.length -> w.cell? ⟨b, o + i, none⟩ = some (.string (l.getD i (⟨#[]⟩, 0)).1) := fun h0 => by
 unfold OwnN at h
 rw [List.take_length] at h
 rcases h.2 with ⟨_, e0⟩ | ⟨g, cap, cur, e1, e2, e3, e4, e5, e6, e7⟩
 · omega
 · cases e1
   refine ⟨g, 0, rfl, heap_lt' e3, fun i hi => ?_⟩
   have : (cur.toList.take (l.length * 1))[i]? = some (Value.string (l.getD i (⟨#[]⟩, 0)).1) := by
     rw [e7, List.getElem?_map, List.getElem?_eq_getElem hi, List.getD_eq_getElem?_getD, List.getElem?_eq_getElem hi]; rfl
   rw [List.getElem?_take, if_pos (by omega)] at this
   rw [Nat.zero_add]
   exact cellOf e3 (by simpa using this)
theorem right_yes (S : Sample) (hS : SOk S) (hN : SNice S) (w : World) (M : Nat -> Nat) (hM : ∀ i, 1 <= M i /\ M i <= 5) (rs : List Rl) (hsub : rs.Sublist S.rules) (ca sa ra : Option Addr) (cc sc rc : Nat) (hC : ColsAt w ca S.cols) (hY : SymsAt w sa S.syms M) (hR : RulesAt w ra rs) :
   Calls Tryz.prog 38 #[.agg #[.string S.nm, .int .i64 S.ver, .slice ca S.cols.length cc, .slice sa S.syms.length sc, .slice ra rs.length rc, .int .i64 S.st]] w fun e w' => e = .returned (.bool true) /\ Below w.heap.size w w' := by
 obtain ⟨n0, n1, n2, n3, n4, n5, n6, n7⟩ := hN
 have N1 := Lib.hid n1
 have N2 := Lib.hid n2
 have N3 := Lib.hid n3
 have N4 := Lib.hid n4
 have N5 := Lib.hid n5
 have N6 := fun r (hr : r ∈ rs) => n6 r (hsub.subset hr)
 have N7 := List.pairwise_iff_getElem.1 (n7.sublist hsub)
 have HRR := Lib.hid (fun W (hW : Below w.heap.size w W) (q : Nat) (hq : q < rs.length) => rightRule_yes (.string S.nm) (.int .i64 S.ver) (.slice ca S.cols.length cc) (.int .i64 S.st) sa ra S.syms M rs sc rc q W (hY.below hW) (fun c hc => (n4 c hc).1) hS.syms (hR.below hW) (Nat.le_trans hsub.length_le hS.rules) N6 N7 hq)
 have hcz := Lib.hid hS.cz
 have hsz := Lib.hid hS.sz
 have hver := hS.ver
 have hcn := hS.cols
 have hsn0 := hS.syms0
 have hsn := hS.syms
 have hrn : rs.length <= 40 := Nat.le_trans hsub.length_le hS.rules
 have hst := hS.st
 have HMM := Lib.hid hM
 have HC := Lib.hid (fun W (hW : Below w.heap.size w W) => hC.below hW)
 have HYY := Lib.hid (fun W (hW : Below w.heap.size w W) => hY.below hW)
 clear n0 n1 n2 n3 n4 n5 n6 n7 N6 N7 hS hC hY hR hM hsub
 have v1 : decide ((S.ver : Int) < 0) = false := by simp
 have v2 : decide ((1000000000 : Int) < (S.ver : Int)) = false := by simp; omega
 have v3 : decide ((8 : Int) < (S.cols.length : Int)) = false := by simp; omega
 have v4 : decide ((S.syms.length : Int) < 1) = false := by simp; omega
 have v5 : decide ((12 : Int) < (S.syms.length : Int)) = false := by simp; omega
 have v6 : decide ((40 : Int) < (rs.length : Int)) = false := by simp; omega
 have v7 : decide ((S.st : Int) < 0) = false := by simp
 have v8 : decide ((S.syms.length : Int) <= (S.st : Int)) = false := by simp; omega
 have v9 : decide (S.syms.length <= S.st) = false := by simp; omega
 have HB1 : ∀ o1, Below w.heap.size w (w.alloc o1) := fun o1 => (Below.refl _ _).alloc (Nat.le_refl _) _
 obtain ⟨i0, hi0, hz0, hz1, hz2⟩ := info_parts info9
 go_enter Tryz.func38, Tryz.ntmps38
 go_wp2_with (go_at_call 95; refine (name_yes _ _ N1.out).mono ?_; rintro e w' ⟨rfl, rfl⟩)
 have HX : Box (w.alloc (.cells #[.string S.nm, .int .i64 S.ver, .slice ca S.cols.length cc, .slice sa S.syms.length sc, .slice ra rs.length rc, .int .i64 S.st] 29)) w.heap.size #[.string S.nm, .int .i64 S.ver, .slice ca S.cols.length cc, .slice sa S.syms.length sc, .slice ra rs.length rc, .int .i64 S.st] := ⟨by simp, heapNew w _⟩
 have HB := HB1 (.cells #[.string S.nm, .int .i64 S.ver, .slice ca S.cols.length cc, .slice sa S.syms.length sc, .slice ra rs.length rc, .int .i64 S.st] 29)
 have hs1 := sizeNew w (.cells #[.string S.nm, .int .i64 S.ver, .slice ca S.cols.length cc, .slice sa S.syms.length sc, .slice ra rs.length rc, .int .i64 S.st] 29)
 generalize w.alloc (.cells #[.string S.nm, .int .i64 S.ver, .slice ca S.cols.length cc, .slice sa S.syms.length sc, .slice ra rs.length rc, .int .i64 S.st] 29) = w1 at *
 try rw [v9]
 go_loopw [4, 5] (fun v i wr => ∃ k : Nat, k <= S.cols.length /\ i = .int .i64 k /\ OwnN (w.heap.size + 1) S.cols k v wr /\ Below (w.heap.size + 1) w1 wr) (fun _ i _ => S.cols.length - (intOf i).toNat)
 case atStart => exact ⟨0, Nat.zero_le _, rfl, World.ownsRow_nil _ _ _ _, Below.refl _ _⟩
 case round =>
   obtain ⟨k, hk, rfl, hown, hbr⟩ := hrel
   have HXr := HX.below (by omega) hbr
   have HBr : Below w.heap.size w wr := HB.trans (hbr.mono (by omega))
   have e2 := cellOf (i := 2) HXr.2 rfl
   have hlt1 := HXr.1
   by_cases hlt : k < S.cols.length
   · obtain ⟨cb, co, rfl, hcb, hcc⟩ := ColsAt.cell (HC.out _ HBr)
     obtain ⟨f0, f1⟩ := hcc k hlt
     obtain ⟨_, m2, m3⟩ := N2.out _ (List.getElem_mem hlt)
     have j1 : (0 : Int) <= (k : Int) := by omega
     have j2 : (k : Int) < (S.cols.length : Int) := by omega
     have j3 : (k : Int) <= 1000 := by omega
     clear hcc
     go_wp2_with (first
       | (go_at_call 96; refine (kindName_yes _ _ m2 m3).mono ?_; rintro e w5 ⟨⟨sk, rfl, hbl⟩, hb5⟩; obtain ⟨hc5, hf5⟩ := bcell hb5; have hx5 := hown.below hb5)
       | (at_builtin; refine wpList_append_own _ rfl _ _ 35 rfl (w.heap.size + 1) 9 i0 (.string ⟨#[]⟩) 1 16 Tryz.underlying35 hi0 hz0 hz1 hz2 rfl (by decide) _ _ _ rfl (World.ownsRow.alloc hx5 _) ⟨w5.heap.size, 0, none⟩ 1 1 [.string S.cols[k].1] rfl rfl ?c1 ?c2 ?c3 ?c4 ?c5 ?_))
     case c1 => exact news1 w5 _
     case c2 => simp [Value.oneCell']
     case c3 => unfold maxLen; omega
     case c4 => omega
     case c5 => have := hb5.size; simp; omega
     intro v' w6 hown6 hgrow6 _
     have HB6 : Below (w.heap.size + 1) w1 w6 := ((hbr.trans (hb5.mono (by omega))).alloc (by have := hb5.size; omega) _).grown hgrow6 (by have := hb5.size; simp; omega) hown.ge
     have HO6 : OwnN (w.heap.size + 1) S.cols (k + 1) v' w6 := OwnN.snoc hlt (by rw [List.map_take]; exact hown6)
     clear hown6 hgrow6 hx5 hc5 hf5 hb5
     go_wp2
     go_roundw
     case rel => first | exact ⟨k + 1, by omega, by go_num, HO6, HB6⟩ | ((repeat apply Exists.intro); refine ⟨?_, rfl⟩; exact ⟨k + 1, by omega, by go_num, HO6, HB6⟩)
     case measure => simp [intOf]; omega
   · obtain ⟨wo, rfl⟩ : ∃ wo : World, wo = wr := ⟨_, rfl⟩
     obtain rfl : k = S.cols.length := by omega
     obtain ⟨a4, c4, rfl⟩ := hown.form
     have hlto := HXr.1
     go_wp2
     go_loopw [6, 7] (fun v i wq => ∃ m : Nat, m <= S.syms.length /\ i = .int .i64 m /\ OwnN wo.heap.size S.syms m v wq /\ Below wo.heap.size wo wq) (fun _ i _ => S.syms.length - (intOf i).toNat)
     case atStart => exact ⟨0, Nat.zero_le _, rfl, World.ownsRow_nil _ _ _ _, Below.refl _ _⟩
     case round =>
       obtain ⟨m, hm, rfl, hownq, hbq⟩ := hrel
       have HXq := HXr.below hlto hbq
       have HBq : Below w.heap.size w wr := HBr.trans (hbq.mono HBr.size)
       have e3 := cellOf (i := 3) HXq.2 rfl
       have hltq := HXq.1
       by_cases hltm : m < S.syms.length
       · obtain ⟨sb, so, rfl, hsb, hcc⟩ := HYY.out _ HBq
         obtain ⟨f0, f1, f2⟩ := hcc m hltm
         obtain ⟨_, m2, m3⟩ := N4.out _ (List.getElem_mem hltm)
         have mm := HMM.out m
         have j1 : (0 : Int) <= (m : Int) := by omega
         have j2 : (m : Int) < (S.syms.length : Int) := by omega
         have j3 : (m : Int) <= 1000 := by omega
         have mm1 : ¬ (M m : Int) < 1 := by omega
         have mm2 : ¬ (9 : Int) < (M m : Int) := by omega
         clear hcc
         go_wp2_with (first
           | (go_at_call 96; refine (kindName_yes _ _ m2 m3).mono ?_; rintro e w5 ⟨⟨sk, rfl, hbl⟩, hb5⟩; obtain ⟨hc5, hf5⟩ := bcell hb5; have hx5 := hownq.below hb5)
           | (at_builtin; refine wpList_append_own _ rfl _ _ 35 rfl wo.heap.size 9 i0 (.string ⟨#[]⟩) 1 16 Tryz.underlying35 hi0 hz0 hz1 hz2 rfl (by decide) _ _ _ rfl (World.ownsRow.alloc hx5 _) ⟨w5.heap.size, 0, none⟩ 1 1 [.string S.syms[m].1] rfl rfl ?c1 ?c2 ?c3 ?c4 ?c5 ?_))
         case c1 => exact news1 w5 _
         case c2 => simp [Value.oneCell']
         case c3 => unfold maxLen; omega
         case c4 => omega
         case c5 => have := hb5.size; have := hbq.size; simp; omega
         intro v' w6 hown6 hgrow6 _
         have HB6 : Below wo.heap.size wo w6 := ((hbq.trans (hb5.mono hbq.size)).alloc (by have := hb5.size; have := hbq.size; omega) _).grown hgrow6 (by have := hb5.size; have := hbq.size; simp; omega) hownq.ge
         have HO6 : OwnN wo.heap.size S.syms (m + 1) v' w6 := OwnN.snoc hltm (by rw [List.map_take]; exact hown6)
         clear hown6 hgrow6 hx5 hc5 hf5 hb5
         go_wp2
         go_roundw
         case rel => first | exact ⟨m + 1, by omega, by go_num, HO6, HB6⟩ | ((repeat apply Exists.intro); refine ⟨?_, rfl⟩; exact ⟨m + 1, by omega, by go_num, HO6, HB6⟩)
         case measure => simp [intOf]; omega
       · obtain ⟨wp, rfl⟩ : ∃ wp : World, wp = wr := ⟨_, rfl⟩
         obtain rfl : m = S.syms.length := by omega
         obtain ⟨a6, c6, rfl⟩ := hownq.form
         have U4 := Lib.hid (fun W (hW : Below wp.heap.size wp W) => unique_yes a4 S.cols.length c4 W (fun i => (S.cols.getD i (⟨#[]⟩, 0)).1) (by omega) (OwnN.strs ((hown.below hbq).below hW)) (fun i hi => by
           rw [List.getD_eq_getElem?_getD, List.getElem?_eq_getElem hi]; exact (N2.out _ (List.getElem_mem hi)).1) (fun i j hij hj => by
           rw [List.getD_eq_getElem?_getD, List.getElem?_eq_getElem (by omega), List.getD_eq_getElem?_getD, List.getElem?_eq_getElem hj]; exact N3.out i j _ _ hij))
         have U6 := Lib.hid (fun W (hW : Below wp.heap.size wp W) => unique_yes a6 S.syms.length c6 W (fun i => (S.syms.getD i (⟨#[]⟩, 0)).1) (by omega) (OwnN.strs (hownq.below hW)) (fun i hi => by
           rw [List.getD_eq_getElem?_getD, List.getElem?_eq_getElem hi]; exact (N4.out _ (List.getElem_mem hi)).1) (fun i j hij hj => by
           rw [List.getD_eq_getElem?_getD, List.getElem?_eq_getElem (by omega), List.getD_eq_getElem?_getD, List.getElem?_eq_getElem hj]; exact N5.out i j _ _ hij))
         go_wp2_with (first
           | (have _ := d8; go_at_call 97; ((with_reducible refine (U6.out _ (Drawn.below d8 _)).mono ?_); rintro e w' ⟨rfl, q9, rfl⟩))
           | (go_at_call 97; ((with_reducible refine (U4.out _ (Below.refl _ _)).mono ?_); rintro e w' ⟨rfl, q8, rfl⟩; have d8 : Drawn wp (wp.drewN q8) := ⟨q8, rfl⟩)))
         have HXz : Box (wp.drewN (q8 + q9)) w.heap.size #[.string S.nm, .int .i64 S.ver, .slice ca S.cols.length cc, .slice sa S.syms.length sc, .slice ra rs.length rc, .int .i64 S.st] := HXq
         have HBz : Below w.heap.size w (wp.drewN (q8 + q9)) := HBq.trans (Drawn.below ⟨_, rfl⟩ _)
         generalize wp.drewN (q8 + q9) = wz at HXz HBz ⊢
         go_loopw [10] (fun i wy => ∃ q : Nat, q <= rs.length /\ i = .int .i64 q /\ Below wz.heap.size wz wy) (fun i _ => rs.length - (intOf i).toNat)
         case atStart => exact ⟨0, Nat.zero_le _, rfl, Below.refl _ _⟩
         case round =>
           obtain ⟨q, hq, rfl, hby⟩ := hrel
           have HXy := HXz.below HXz.1 hby
           have HBy : Below w.heap.size w wr := HBz.trans (hby.mono HBz.size)
           have e0 := cellOf (i := 0) HXy.2 rfl
           have e1 := cellOf (i := 1) HXy.2 rfl
           have e2' := cellOf (i := 2) HXy.2 rfl
           have e3' := cellOf (i := 3) HXy.2 rfl
           have e4 := cellOf (i := 4) HXy.2 rfl
           have e5 := cellOf (i := 5) HXy.2 rfl
           by_cases hlq : q < rs.length
           · have j3 : (q : Int) <= 1000 := by omega
             go_wp2_with (go_at_call 98; refine (HRR.out _ HBy q hlq).mono ?_; rintro e w7 ⟨rfl, hb7⟩)
             go_roundw
             case rel => first | exact ⟨q + 1, by omega, by go_num, hby.trans (hb7.mono hby.size)⟩ | ((repeat apply Exists.intro); refine ⟨?_, rfl⟩; exact ⟨q + 1, by omega, by go_num, hby.trans (hb7.mono hby.size)⟩)
             case measure => simp [intOf]; omega
           · go_wp2
             all_goals (go_ret; exact ⟨rfl, HBy⟩)
end Go.EvPart.N
