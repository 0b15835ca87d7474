/- ItemPartials, one part of the proof: PartW21. -/
import Derived.Test.YtljoobbnhbaklaaGreatDoorP08
set_option linter.all false
set_option maxRecDepth 100000
set_option maxHeartbeats 16000000
namespace Go.EvPart.N
open Go Go.Proofs Go.RowKit Go.EvNil
def ArgsT (w : World) (e : RE) : Prop := e.1.args.length <= e.2.2.2 /\ ∃ arr fz, w.heap[e.2.1]? = some (.cells arr 3 fz) /\ ∀ i (hi : i < e.1.args.length), arr[e.2.2.1 + i]? = some (.int .i64 e.1.args[i])
structure Copied (S : Sample) (M : Nat -> Nat) (rs : List Rl) (base : Nat) (w : World) (cv sv rv : Value) (es : List RE) : Prop where
 c : w.ownsRow base 131 2 cv S.cols.length (colW S.cols)
 s : w.ownsRow base 56 3 sv S.syms.length (symW S.syms M 0)
 r : w.ownsRow base 76 4 rv es.length (ruleW es)
 e : es.map (·.1) = rs
 a : ∀ e ∈ es, ArgsT w e
structure Bx (w : World) (G O : Array Value) (wr : World) : Prop where
 b : Below w.heap.size w wr
 g : wr.heap[w.heap.size]? = some (.cells G 29 (0, 0))
 q : wr.heap[w.heap.size + 1]? = some (.cells #[.string ⟨#[]⟩, .int .i64 0, .slice none 0 0, .slice none 0 0, .slice none 0 0, .int .i64 0] 29 (0, 0))
 o : wr.heap[w.heap.size + 1 + 1]? = some (.cells O 29 (0, 0))
theorem Bx.below {w wr w' : World} {G O : Array Value} (h : Bx w G O wr) (hb : Below wr.heap.size wr w') : Bx w G O w' :=
 ⟨h.b.trans (hb.mono h.b.size), by rw [hb.block _ (heap_lt' h.g)]; exact h.g, by rw [hb.block _ (heap_lt' h.q)]; exact h.q, by rw [hb.block _ (heap_lt' h.o)]; exact h.o⟩
theorem Bx.setO {w wr : World} {G O : Array Value} (h : Bx w G O wr) (i : Nat) (u : Value) : Bx w G (O.setIfInBounds i u) (wr.setCell ⟨w.heap.size + 1 + 1, i, none⟩ u) :=
 ⟨h.b.setCell (by simp; omega) _, by rw [Below.heap_setCell _ _ _ _ (by show w.heap.size ≠ w.heap.size + 1 + 1; omega)]; exact h.g, by rw [Below.heap_setCell _ _ _ _ (by show w.heap.size + 1 ≠ w.heap.size + 1 + 1; omega)]; exact h.q, Joins.block_setCell h.o _⟩
theorem own_setT {w : World} {base : Nat} {e t : TypeId} {size : Nat} {v : Value} {n : Nat} {xs : List Value} (h : w.ownsRow base e size v n xs) {b : Nat} {cs : Array Value} {fr : Nat × Nat} (hb : w.heap[b]? = some (.cells cs t fr)) (ht : t ≠ e) (i : Nat) (u : Value) : (w.setCell ⟨b, i, none⟩ u).ownsRow base e size v n xs := by
 have hne := ownsRow_ne h hb ht
 refine ⟨h.1, ?_⟩
 rcases h.2 with h4 | ⟨g, cap, cur, e1, e2, e3, e4⟩
 · exact .inl h4
 · refine .inr ⟨g, cap, cur, e1, e2, ?_, e4⟩
   rw [Below.heap_setCell _ _ _ _ (fun e => hne (by subst e1; simp [Value.ownBlock, e]))]
   exact e3
theorem args_setT {w : World} {e : RE} (h : ArgsT w e) {b t : Nat} {cs : Array Value} {fr : Nat × Nat} (hb : w.heap[b]? = some (.cells cs t fr)) (ht : t ≠ 3) (i : Nat) (u : Value) : ArgsT (w.setCell ⟨b, i, none⟩ u) e := by
 obtain ⟨h0, arr, fz, h1, h2⟩ := h
 refine ⟨h0, arr, fz, ?_, h2⟩
 rw [Below.heap_setCell _ _ _ _ (fun e1 => ?_)]
 · exact h1
 · rw [e1, hb] at h1
   cases h1
   exact ht rfl
theorem ArgsT.below {w w' : World} {e : RE} (h : ArgsT w e) (hb : Below w.heap.size w w') : ArgsT w' e := by
 obtain ⟨h0, arr, fz, h1, h2⟩ := h
 exact ⟨h0, arr, fz, by rw [hb.block _ (heap_lt' h1)]; exact h1, h2⟩
theorem Copied.below {S : Sample} {M : Nat -> Nat} {rs : List Rl} {base : Nat} {w w' : World} {cv sv rv : Value} {es : List RE} (h : Copied S M rs base w cv sv rv es) (hb : Below w.heap.size w w') : Copied S M rs base w' cv sv rv es :=
 ⟨ownsRow_below' h.c hb, ownsRow_below' h.s hb, ownsRow_below' h.r hb, h.e, fun e he => (h.a e he).below hb⟩
theorem own_empty (w : World) (base : Nat) (e : TypeId) (size : Nat) (hb : base <= w.heap.size) : (w.alloc (.cells #[] e)).ownsRow base e size (.slice (some ⟨w.heap.size, 0, none⟩) 0 0) 0 [] :=
 ⟨by simp, .inr ⟨w.heap.size, 0, #[], rfl, hb, heapNew _ _, Nat.le_refl _, Nat.zero_le _, by simp, by simp⟩⟩
theorem own_form {w : World} {base : Nat} {e : TypeId} {size : Nat} {v : Value} {n : Nat} {xs : List Value} (h : w.ownsRow base e size v n xs) (h0 : v ≠ .slice none 0 0) : ∃ g cap, v = .slice (some ⟨g, 0, none⟩) n cap := by
 rcases h.2 with ⟨e1, _⟩ | ⟨g, cap, cur, e1, _⟩
 · exact absurd e1 h0
 · exact ⟨g, cap, e1⟩
theorem grown_new {w w' : World} {e : TypeId} (hg : (w.alloc (.cells #[] e)).grownBy w' (Value.slice (some ⟨w.heap.size, 0, none⟩) 0 0).ownBlock) : Below w.heap.size w w' :=
 ((Below.refl _ _).alloc (Nat.le_refl _) _).grown hg (by simp) (fun g hgg => by simp [Value.ownBlock] at hgg; omega)
theorem own_rowT {w : World} {base : Nat} {e : TypeId} {size : Nat} {v : Value} {n : Nat} {xs : List Value} (h : w.ownsRow base e size v n xs) : ∀ b, v.ownBlock = some b -> ∃ cs fr, w.heap[b]? = some (.cells cs e fr) /\ base <= b := by
 intro b hb
 rcases h.2 with ⟨h4, _⟩ | ⟨g, cap, cur, e1, e2, e3, e4⟩
 · subst h4; simp [Value.ownBlock] at hb
 · subst e1
   simp [Value.ownBlock] at hb
   subst hb
   exact ⟨_, _, e3, e2⟩
theorem grown_block {w w' : World} {o : Obj} {row : Option Nat} {t : TypeId} (hg : (w.alloc o).grownBy w' row) (hr : ∀ b, row = some b -> ∃ cs fr, w.heap[b]? = some (.cells cs 76 fr)) {b : Nat} {cs : Array Value} {fr : Nat × Nat} (hb : w.heap[b]? = some (.cells cs t fr)) (ht : t ≠ 76) : w'.heap[b]? = some (.cells cs t fr) := by
 rw [hg.block b (by have := heap_lt' hb; simp; omega) (fun e => ?_), heapOld _ _ (heap_lt' hb)]
 · exact hb
 · obtain ⟨cs', fr', h'⟩ := hr b e.symm
   rw [hb] at h'
   cases h'
   exact ht rfl
theorem own_grown {w w' : World} {o : Obj} {row : Option Nat} (hg : (w.alloc o).grownBy w' row) (hr : ∀ b, row = some b -> ∃ cs fr, w.heap[b]? = some (.cells cs 76 fr)) {base : Nat} {e : TypeId} {size : Nat} {v : Value} {n : Nat} {xs : List Value} (h : w.ownsRow base e size v n xs) (he : e ≠ 76) : w'.ownsRow base e size v n xs := by
 refine ⟨h.1, ?_⟩
 rcases h.2 with h4 | ⟨g, cap, cur, e1, e2, e3, e4⟩
 · exact .inl h4
 · exact .inr ⟨g, cap, cur, e1, e2, grown_block hg hr e3 he, e4⟩
theorem Bx.grown {w w8 w9 : World} {G O : Array Value} {o : Obj} {row : Option Nat} (h : Bx w G O w8) (hg : (w8.alloc o).grownBy w9 row) (hr : ∀ b, row = some b -> ∃ cs fr, w8.heap[b]? = some (.cells cs 76 fr) /\ w.heap.size <= b) : Bx w G O w9 := by
 have hr' : ∀ b, row = some b -> ∃ cs fr, w8.heap[b]? = some (.cells cs 76 fr) := fun b hb => by obtain ⟨cs, fr, h1, _⟩ := hr b hb; exact ⟨cs, fr, h1⟩
 exact ⟨(h.b.alloc h.b.size o).grown hg (by have := h.b.size; simp; omega) (fun b hb => by obtain ⟨_, _, _, h1⟩ := hr b hb; exact h1), grown_block hg hr' h.g (by decide), grown_block hg hr' h.q (by decide), grown_block hg hr' h.o (by decide)⟩
theorem Copied.next {S : Sample} {M : Nat -> Nat} {l : List Rl} {base : Nat} {w w' : World} {cv sv rv v' : Value} {es : List RE} {o : Obj} (h : Copied S M l base w cv sv rv es) (e : RE) (hA : ArgsT w e) (hg : (w.alloc o).grownBy w' rv.ownBlock) (hown : w'.ownsRow base 76 4 v' (es.length + 1) (ruleW es ++ ruleW [e])) : Copied S M (l ++ [e.1]) base w' cv sv v' (es ++ [e]) := by
 have hr' : ∀ b, rv.ownBlock = some b -> ∃ cs fr, w.heap[b]? = some (.cells cs 76 fr) := fun b hb => by obtain ⟨cs, fr, h1, _⟩ := own_rowT h.r b hb; exact ⟨cs, fr, h1⟩
 have ha : ∀ q, ArgsT w q -> ArgsT w' q := fun q ⟨h0, arr, fz, h1, h2⟩ => ⟨h0, arr, fz, grown_block hg hr' h1 (by decide), h2⟩
 refine ⟨own_grown hg hr' h.c (by decide), own_grown hg hr' h.s (by decide), ?_, by simp [h.e], fun q hq => ?_⟩
 · rw [ruleW_app]; simpa using hown
 · rcases List.mem_append.1 hq with h1 | h1
   · exact ha q (h.a q h1)
   · simp at h1; subst h1; exact ha _ hA
theorem Copied.setT {S : Sample} {M : Nat -> Nat} {l : List Rl} {base : Nat} {w : World} {cv sv rv : Value} {es : List RE} (h : Copied S M l base w cv sv rv es) {b : Nat} {cs : Array Value} {fr : Nat × Nat} (hb : w.heap[b]? = some (.cells cs 29 fr)) (i : Nat) (u : Value) : Copied S M l base (w.setCell ⟨b, i, none⟩ u) cv sv rv es :=
 ⟨own_setT h.c hb (by decide) i u, own_setT h.s hb (by decide) i u, own_setT h.r hb (by decide) i u, h.e, fun e he => args_setT (h.a e he) hb (by decide) i u⟩
theorem args_of {w : World} {base g n cap : Nat} {r : Rl} (h : w.ownsRow base 3 1 (.slice (some ⟨g, 0, none⟩) n cap) n (argW r.args)) (hn : n = r.args.length) : ArgsT w (r, g, 0, cap) := by
 obtain ⟨g', cap', cur, e1, _, e3, e4, _, e6⟩ := own_cells h (by simp)
 cases e1
 refine ⟨by simp only; omega, cur, _, e3, fun i hi => ?_⟩
 simp only at hi ⊢
 rw [Nat.zero_add, e6 i (by omega)]
 exact argW_at r.args i hi
theorem six {S : Sample} {M : Nat -> Nat} {l : List Rl} {base : Nat} {w : World} {cv sv rv : Value} {es : List RE} (h : Copied S M l base w cv sv rv es) {b : Nat} {z0 z1 z2 z3 z4 z5 : Value} (hb : w.heap[b]? = some (.cells #[z0, z1, z2, z3, z4, z5] 29 (0, 0))) (a0 a1 a2 a3 a4 a5 : Value) :
   Copied S M l base ((((((w.setCell ⟨b, 0, none⟩ a0).setCell ⟨b, 1, none⟩ a1).setCell ⟨b, 2, none⟩ a2).setCell ⟨b, 3, none⟩ a3).setCell ⟨b, 4, none⟩ a4).setCell ⟨b, 5, none⟩ a5) cv sv rv es /\ ((((((w.setCell ⟨b, 0, none⟩ a0).setCell ⟨b, 1, none⟩ a1).setCell ⟨b, 2, none⟩ a2).setCell ⟨b, 3, none⟩ a3).setCell ⟨b, 4, none⟩ a4).setCell ⟨b, 5, none⟩ a5).heap[b]? = some (.cells #[a0, a1, a2, a3, a4, a5] 29 (0, 0)) := by
 have b1 := Joins.block_setCell (i := 0) hb a0
 have b2 := Joins.block_setCell (i := 1) b1 a1
 have b3 := Joins.block_setCell (i := 2) b2 a2
 have b4 := Joins.block_setCell (i := 3) b3 a3
 have b5 := Joins.block_setCell (i := 4) b4 a4
 have b6 := Joins.block_setCell (i := 5) b5 a5
 exact ⟨(((((h.setT hb 0 a0).setT b1 1 a1).setT b2 2 a2).setT b3 3 a3).setT b4 4 a4).setT b5 5 a5, b6⟩
theorem below_six {B : Nat} {w0 w : World} (h : Below B w0 w) {b : Nat} (hb : B <= b) (a0 a1 a2 a3 a4 a5 : Value) : Below B w0 ((((((w.setCell ⟨b, 0, none⟩ a0).setCell ⟨b, 1, none⟩ a1).setCell ⟨b, 2, none⟩ a2).setCell ⟨b, 3, none⟩ a3).setCell ⟨b, 4, none⟩ a4).setCell ⟨b, 5, none⟩ a5) :=
 (((((h.setCell (p := ⟨b, 0, none⟩) hb a0).setCell (p := ⟨b, 1, none⟩) hb a1).setCell (p := ⟨b, 2, none⟩) hb a2).setCell (p := ⟨b, 3, none⟩) hb a3).setCell (p := ⟨b, 4, none⟩) hb a4).setCell (p := ⟨b, 5, none⟩) hb a5
theorem size28 : (Tryz.prog.info? 29).map (·.size) = some 6 := by kernel_rfl
def gAgg (S : Sample) (cv sv rv : Value) : Array Value := #[.string S.nm, .int .i64 S.ver, cv, sv, rv, .int .i64 S.st]
theorem copy_any (S : Sample) (hS : SOk S) (w : World) (M : Nat -> Nat) (rs : List Rl) (hrl : rs.length <= 40) (har : ∀ r ∈ rs, r.args.length <= 3) (ca sa ra : Option Addr) (cc sc rc : Nat) (hC : ColsAt w ca S.cols) (hY : SymsAt w sa S.syms M) (hR : RulesAt w ra rs) :
   Calls Tryz.prog 15 #[.agg #[.string S.nm, .int .i64 S.ver, .slice ca S.cols.length cc, .slice sa S.syms.length sc, .slice ra rs.length rc, .int .i64 S.st]] w fun e w' => (∃ cv sv rv es, e = .returned (.agg (gAgg S cv sv rv)) /\ Copied S M rs w.heap.size w' cv sv rv es) /\ Below w.heap.size w w' := by
 obtain ⟨i88, hi88, ha0, ha1, ha2⟩ := info_parts info88
 obtain ⟨i75, hi75, hb0, hb1, hb2⟩ := info_parts info75
 obtain ⟨i112, hi112, hc0, hc1, hc2⟩ := info_parts info112
 obtain ⟨i3, hi3, hd0, hd1, hd2⟩ := info_parts info3
 have hcn := hS.cols
 have hsn := hS.syms
 obtain ⟨cb, co, carr, cfz, rfl, hcb, hcc⟩ := hC
 obtain ⟨sb, so, rfl, hsb, hsc⟩ := hY
 obtain ⟨rb, ro, rfl, hrb, hrc⟩ := hR
 go_enter Tryz.func15, Tryz.ntmps15
 go_upto_region 2 with fail
 have hX0 : Bx w #[.string S.nm, .int .i64 S.ver, .slice (some ⟨cb, co, none⟩) S.cols.length cc, .slice (some ⟨sb, so, none⟩) S.syms.length sc, .slice (some ⟨rb, ro, none⟩) rs.length rc, .int .i64 S.st] #[.string S.nm, .int .i64 S.ver, .slice (some ⟨cb, co, none⟩) S.cols.length cc, .slice (some ⟨sb, so, none⟩) S.syms.length sc, .slice (some ⟨rb, ro, none⟩) rs.length rc, .int .i64 S.st] (((w.alloc (.cells #[.string S.nm, .int .i64 S.ver, .slice (some ⟨cb, co, none⟩) S.cols.length cc, .slice (some ⟨sb, so, none⟩) S.syms.length sc, .slice (some ⟨rb, ro, none⟩) rs.length rc, .int .i64 S.st] 29)).alloc (.cells #[.string ⟨#[]⟩, .int .i64 0, .slice none 0 0, .slice none 0 0, .slice none 0 0, .int .i64 0] 29)).alloc (.cells #[.string S.nm, .int .i64 S.ver, .slice (some ⟨cb, co, none⟩) S.cols.length cc, .slice (some ⟨sb, so, none⟩) S.syms.length sc, .slice (some ⟨rb, ro, none⟩) rs.length rc, .int .i64 S.st] 29)) := by
   have z1 := sizeNew w (.cells #[.string S.nm, .int .i64 S.ver, .slice (some ⟨cb, co, none⟩) S.cols.length cc, .slice (some ⟨sb, so, none⟩) S.syms.length sc, .slice (some ⟨rb, ro, none⟩) rs.length rc, .int .i64 S.st] 29)
   have z2 := sizeNew (w.alloc (.cells #[.string S.nm, .int .i64 S.ver, .slice (some ⟨cb, co, none⟩) S.cols.length cc, .slice (some ⟨sb, so, none⟩) S.syms.length sc, .slice (some ⟨rb, ro, none⟩) rs.length rc, .int .i64 S.st] 29)) (.cells #[.string ⟨#[]⟩, .int .i64 0, .slice none 0 0, .slice none 0 0, .slice none 0 0, .int .i64 0] 29)
   refine ⟨(((Below.refl _ _).alloc (Nat.le_refl _) _).alloc (by simp) _).alloc (by simp; omega) _, ?_, ?_, ?_⟩
   · rw [heapOld _ _ (by omega), heapOld _ _ (by omega)]; exact heapNew _ _
   · rw [heapOld _ _ (by omega), ← z1]; exact heapNew _ _
   · rw [← z1, ← z2]; exact heapNew _ _
 generalize (((w.alloc (.cells #[.string S.nm, .int .i64 S.ver, .slice (some ⟨cb, co, none⟩) S.cols.length cc, .slice (some ⟨sb, so, none⟩) S.syms.length sc, .slice (some ⟨rb, ro, none⟩) rs.length rc, .int .i64 S.st] 29)).alloc (.cells #[.string ⟨#[]⟩, .int .i64 0, .slice none 0 0, .slice none 0 0, .slice none 0 0, .int .i64 0] 29)).alloc (.cells #[.string S.nm, .int .i64 S.ver, .slice (some ⟨cb, co, none⟩) S.cols.length cc, .slice (some ⟨sb, so, none⟩) S.syms.length sc, .slice (some ⟨rb, ro, none⟩) rs.length rc, .int .i64 S.st] 29)) = w1 at hX0 ⊢
 have e2 : w1.cell? ⟨w.heap.size, 2, none⟩ = some (.slice (some ⟨cb, co, none⟩) S.cols.length cc) := cellOf (i := 2) hX0.g rfl
 have l1 := heap_lt' hX0.g
 have l3 := heap_lt' hX0.o
 have RC := Lib.hid (rowCols (w := w1.alloc (.cells #[] 131)) (b := cb) S.cols co fun i hi => by
   have hk : (w1.alloc (.cells #[] 131)).heap[cb]? = some (.cells carr 131 cfz) := by
     rw [(hX0.b.alloc hX0.b.size _).block cb (heap_lt' hcb)]; exact hcb
   simp only [World.cell?, hk]
   exact hcc i hi)
 go_upto_region 3 with (at_builtin; refine wpList_append_own _ rfl _ _ 25 rfl w.heap.size 131 i88 _ 2 24 Tryz.underlying25 hi88 ha0 ha1 ha2 rfl (by decide) (.slice (some ⟨w1.heap.size, 0, none⟩) 0 0) 0 [] rfl (own_empty w1 _ _ _ hX0.b.size) ⟨cb, co, none⟩ S.cols.length cc (colW S.cols) rfl (colW_len _) RC.out (colW_one _) (by unfold maxLen; omega) (by omega) (by have := hX0.b.size; simp; omega) ?_; intro v2 w2 hown2 hgrow2 hnil2; rw [Nat.zero_add, List.nil_append] at hown2; obtain ⟨g2, cap2, rfl⟩ := own_form hown2 (fun e => by have := (hnil2.1 e).1; cases this); have B2 := grown_new hgrow2; have hX2 := hX0.below B2; have c2 : w2.cell? ⟨w.heap.size + 1 + 1, 2, none⟩ = some (.slice (some ⟨cb, co, none⟩) S.cols.length cc) := cellOf (i := 2) hX2.o rfl; have f2 : w2.frozen? ⟨w.heap.size + 1 + 1, 2, none⟩ = false := (by simp [World.frozen?, hX2.o]))
 have hX3 := hX2.setO 2 (.slice (some ⟨g2, 0, none⟩) S.cols.length cap2)
 have hC3 := own_setT hown2 hX2.o (by decide) 2 (.slice (some ⟨g2, 0, none⟩) S.cols.length cap2)
 have hb3 := hX3.b
 clear hown2 hgrow2 hnil2 c2 f2 hX2 hX0 RC B2 e2 l1 l3
 generalize (w2.setCell ⟨w.heap.size + 1 + 1, 2, none⟩ (.slice (some ⟨g2, 0, none⟩) S.cols.length cap2)) = w3 at hX3 hC3 hb3 ⊢
 have e3 : w3.cell? ⟨w.heap.size, 3, none⟩ = some (.slice (some ⟨sb, so, none⟩) S.syms.length sc) := cellOf (i := 3) hX3.g rfl
 have l1 := heap_lt' hX3.g
 have l3 := heap_lt' hX3.o
 have RS := Lib.hid (rowSyms (w := w3.alloc (.cells #[] 56)) (b := sb) M S.syms 0 so fun i hi => by
   rw [(hb3.alloc hb3.size _).cell hsb, (hb3.alloc hb3.size _).cell hsb, (hb3.alloc hb3.size _).cell hsb, Nat.zero_add]
   exact hsc i hi)
 go_upto_region 4 with (at_builtin; refine wpList_append_own _ rfl _ _ 26 rfl w.heap.size 56 i75 _ 3 32 Tryz.underlying26 hi75 hb0 hb1 hb2 rfl (by decide) (.slice (some ⟨w3.heap.size, 0, none⟩) 0 0) 0 [] rfl (own_empty w3 _ _ _ hb3.size) ⟨sb, so, none⟩ S.syms.length sc (symW S.syms M 0) rfl (symW_len _ _ _) RS.out (symW_one _ _ _) (by unfold maxLen; omega) (by omega) (by have := hb3.size; simp; omega) ?_; intro v4 w4 hown4 hgrow4 hnil4; rw [Nat.zero_add, List.nil_append] at hown4; obtain ⟨g3, cap3, rfl⟩ := own_form hown4 (fun e => by have := (hnil4.1 e).1; cases this); have B4 := grown_new hgrow4; have hX4 := hX3.below B4; have c4 : w4.cell? ⟨w.heap.size + 1 + 1, 3, none⟩ = some (.slice (some ⟨sb, so, none⟩) S.syms.length sc) := cellOf (i := 3) hX4.o rfl; have f4 : w4.frozen? ⟨w.heap.size + 1 + 1, 3, none⟩ = false := (by simp [World.frozen?, hX4.o]); have c5 : w4.cell? ⟨w.heap.size + 1 + 1, 4, none⟩ = some (.slice (some ⟨rb, ro, none⟩) rs.length rc) := cellOf (i := 4) hX4.o rfl; have f5 : w4.frozen? ⟨w.heap.size + 1 + 1, 4, none⟩ = false := (by simp [World.frozen?, hX4.o]))
 have hX5 := (hX4.setO 3 (.slice (some ⟨g3, 0, none⟩) S.syms.length cap3)).setO 4 (.slice none 0 0)
 have hC5 := own_setT (own_setT (ownsRow_below' hC3 B4) hX4.o (by decide) 3 (.slice (some ⟨g3, 0, none⟩) S.syms.length cap3)) (hX4.setO 3 (.slice (some ⟨g3, 0, none⟩) S.syms.length cap3)).o (by decide) 4 (.slice none 0 0)
 have hS5 := own_setT (own_setT hown4 hX4.o (by decide) 3 (.slice (some ⟨g3, 0, none⟩) S.syms.length cap3)) (hX4.setO 3 (.slice (some ⟨g3, 0, none⟩) S.syms.length cap3)).o (by decide) 4 (.slice none 0 0)
 have hX6 : Bx w #[.string S.nm, .int .i64 S.ver, .slice (some ⟨cb, co, none⟩) S.cols.length cc, .slice (some ⟨sb, so, none⟩) S.syms.length sc, .slice (some ⟨rb, ro, none⟩) rs.length rc, .int .i64 S.st] #[.string S.nm, .int .i64 S.ver, (.slice (some ⟨g2, 0, none⟩) S.cols.length cap2), (.slice (some ⟨g3, 0, none⟩) S.syms.length cap3), .slice none 0 0, .int .i64 S.st] ((w4.setCell ⟨w.heap.size + 1 + 1, 3, none⟩ (.slice (some ⟨g3, 0, none⟩) S.syms.length cap3)).setCell ⟨w.heap.size + 1 + 1, 4, none⟩ (.slice none 0 0)) := hX5
 clear hX5
 go_wp2
 clear hown4 hgrow4 hnil4 c4 f4 c5 f5 hX4 hX3 RS B4 e3 l1 l3 hC3 hb3
 generalize ((w4.setCell ⟨w.heap.size + 1 + 1, 3, none⟩ (.slice (some ⟨g3, 0, none⟩) S.syms.length cap3)).setCell ⟨w.heap.size + 1 + 1, 4, none⟩ (.slice none 0 0)) = w6 at hX6 hC5 hS5 ⊢
 go_loopw [4] (fun i wr => ∃ (k : Nat) (rv : Value) (es : List RE), k <= rs.length /\ i = .int .i64 k /\ Bx w #[.string S.nm, .int .i64 S.ver, .slice (some ⟨cb, co, none⟩) S.cols.length cc, .slice (some ⟨sb, so, none⟩) S.syms.length sc, .slice (some ⟨rb, ro, none⟩) rs.length rc, .int .i64 S.st] #[.string S.nm, .int .i64 S.ver, (.slice (some ⟨g2, 0, none⟩) S.cols.length cap2), (.slice (some ⟨g3, 0, none⟩) S.syms.length cap3), rv, .int .i64 S.st] wr /\ Copied S M (rs.take k) w.heap.size wr (.slice (some ⟨g2, 0, none⟩) S.cols.length cap2) (.slice (some ⟨g3, 0, none⟩) S.syms.length cap3) rv es) (fun i _ => rs.length - (RowKit.intOf i).toNat)
 case atStart => exact ⟨0, _, [], Nat.zero_le _, rfl, hX6, hC5, hS5, World.ownsRow_nil _ _ _ _, by simp, fun e he => by cases he⟩
 case round =>
   clear hX6 hC5 hS5
   obtain ⟨k, rv, es, hk, rfl, hX, hCo⟩ := hrel
   have hlen : es.length = k := by
     have := congrArg List.length hCo.e
     simpa [Nat.min_eq_left hk] using this
   subst hlen
   have e4 : wr.cell? ⟨w.heap.size, 4, none⟩ = some (.slice (some ⟨rb, ro, none⟩) rs.length rc) := cellOf (i := 4) hX.g rfl
   have l1 := heap_lt' hX.g
   have l3 := heap_lt' hX.o
   have hwr := hX.b.size
   by_cases hlt : es.length < rs.length
   · obtain ⟨aa, ac, hrl⟩ := hrc es.length hlt
     have hrl' := hrl.below hrb hX.b
     obtain ⟨ab, ao, rfl⟩ := hrl.sm
     have hal := har _ (List.getElem_mem hlt)
     have f0 := hrl'.c0
     have f1 := hrl'.c1
     have f2 := hrl'.c2
     have f3 := hrl'.c3
     have hrbl : rb < wr.heap.size := by omega
     have j1 : (0 : Int) <= (es.length : Int) := by omega
     have j2 : (es.length : Int) < (rs.length : Int) := by omega
     have j3 : (es.length : Int) <= 1000 := by omega
     have RA := Lib.hid (rowArgs (w := (wr.alloc (.cells #[.int .i64 rs[es.length].h, .string rs[es.length].op, .string rs[es.length].pa, .slice (some ⟨ab, ao, none⟩) rs[es.length].args.length ac] 76)).alloc (.cells #[] 3)) (b := ab) rs[es.length].args ao fun i hi => by
       obtain ⟨b', o', hbo, hbl, hbc⟩ := hrl.args (by omega)
       cases hbo
       rw [((hX.b.alloc hwr _).alloc (by simp; omega) _).cell hbl]
       exact hbc i hi)
     have HX := Lib.hid hX
     have HCo := Lib.hid hCo
     clear hX hCo hrl hrl'
     go_upto_region 10 with (at_builtin; refine wpList_append_own _ rfl _ _ 22 rfl w.heap.size 3 i3 _ 1 8 Tryz.underlying22 hi3 hd0 hd1 hd2 rfl (by decide) (.slice (some ⟨wr.heap.size + 1, 0, none⟩) 0 0) 0 [] rfl (by have := own_empty (wr.alloc (.cells #[.int .i64 rs[es.length].h, .string rs[es.length].op, .string rs[es.length].pa, .slice (some ⟨ab, ao, none⟩) rs[es.length].args.length ac] 76)) w.heap.size 3 1 (by simp; omega); rw [sizeNew] at this; exact this) ⟨ab, ao, none⟩ rs[es.length].args.length ac (argW rs[es.length].args) rfl (by rw [argW_len]; omega) RA.out (argW_one _) (by unfold maxLen; omega) (by omega) (by simp; omega) ?_; intro v7 w7 hown7 hgrow7 hnil7; rw [Nat.zero_add, List.nil_append] at hown7; obtain ⟨g7, cap7, rfl⟩ := own_form hown7 (fun e => by have := (hnil7.1 e).1; cases this); have B7 : Below (wr.alloc (.cells #[.int .i64 rs[es.length].h, .string rs[es.length].op, .string rs[es.length].pa, .slice (some ⟨ab, ao, none⟩) rs[es.length].args.length ac] 76)).heap.size (wr.alloc (.cells #[.int .i64 rs[es.length].h, .string rs[es.length].op, .string rs[es.length].pa, .slice (some ⟨ab, ao, none⟩) rs[es.length].args.length ac] 76)) w7 := grown_new (by rw [sizeNew]; exact hgrow7); have hbx7 : w7.heap[wr.heap.size]? = some (.cells #[.int .i64 rs[es.length].h, .string rs[es.length].op, .string rs[es.length].pa, .slice (some ⟨ab, ao, none⟩) rs[es.length].args.length ac] 76 (0, 0)) := (by rw [B7.block _ (by simp)]; exact heapNew _ _); have c7 : w7.cell? ⟨wr.heap.size, 3, none⟩ = some (.slice (some ⟨ab, ao, none⟩) rs[es.length].args.length ac) := cellOf (i := 3) hbx7 rfl; have f7 : w7.frozen? ⟨wr.heap.size, 3, none⟩ = false := (by simp [World.frozen?, hbx7]))
     have hbx8 : (w7.setCell ⟨wr.heap.size, 3, none⟩ (.slice (some ⟨g7, 0, none⟩) rs[es.length].args.length cap7)).heap[wr.heap.size]? = some (.cells #[.int .i64 rs[es.length].h, .string rs[es.length].op, .string rs[es.length].pa, .slice (some ⟨g7, 0, none⟩) rs[es.length].args.length cap7] 76 (0, 0)) := Joins.block_setCell hbx7 _
     have B8 : Below wr.heap.size wr (w7.setCell ⟨wr.heap.size, 3, none⟩ (.slice (some ⟨g7, 0, none⟩) rs[es.length].args.length cap7)) := ((((Below.refl _ _).alloc (Nat.le_refl _) _).trans (B7.mono (by simp))).setCell (Nat.le_refl _) _)
     have hA8 := args_setT (args_of hown7 rfl) hbx7 (by decide) 3 (.slice (some ⟨g7, 0, none⟩) rs[es.length].args.length cap7)
     clear hbx7 B7 hown7 hgrow7 hnil7 c7 f7 RA f0 f1 f2 f3 e4
     generalize (w7.setCell ⟨wr.heap.size, 3, none⟩ (.slice (some ⟨g7, 0, none⟩) rs[es.length].args.length cap7)) = w8 at hbx8 B8 hA8 ⊢
     have hX8 := HX.out.below B8
     have hCo8 := HCo.out.below B8
     obtain ⟨va, vc, rfl⟩ : ∃ va vc, rv = .slice va es.length vc := by
       rcases hCo8.r.2 with ⟨h4, h5⟩ | ⟨g', cap, cur, e1, e2, _⟩
       · rw [h5]; exact ⟨_, _, h4⟩
       · exact ⟨_, _, e1⟩
     have o4 : w8.cell? ⟨w.heap.size + 1 + 1, 4, none⟩ = some (.slice va es.length vc) := cellOf (i := 4) hX8.o rfl
     have q0 := cellOf (i := 0) hbx8 rfl
     have q1 := cellOf (i := 1) hbx8 rfl
     have q2 := cellOf (i := 2) hbx8 rfl
     have q3 := cellOf (i := 3) hbx8 rfl
     have hz8 := hX8.b.size
     have HX8 := Lib.hid hX8
     have HCo8 := Lib.hid hCo8
     have HA8 := Lib.hid hA8
     clear HX HCo hX8 hCo8 hA8 hbx8 B8
     go_wp2_with (at_builtin; refine wpList_append_own _ rfl _ _ 27 rfl w.heap.size 76 i112 _ 4 64 Tryz.underlying27 hi112 hc0 hc1 hc2 rfl (by decide) (.slice va es.length vc) es.length (ruleW es) rfl (HCo8.out.r.alloc _) ⟨w8.heap.size, 0, none⟩ 1 1 [.int .i64 rs[es.length].h, .string rs[es.length].op, .string rs[es.length].pa, .slice (some ⟨g7, 0, none⟩) rs[es.length].args.length cap7] rfl rfl (World.news_of_block (cs := #[.int .i64 rs[es.length].h, .string rs[es.length].op, .string rs[es.length].pa, .slice (some ⟨g7, 0, none⟩) rs[es.length].args.length cap7]) (t := 76) (fr := (0, 0)) (heap_alloc_new w8 _)) (by simp [Value.oneCell']) (by unfold maxLen; omega) (by omega) (by simp; omega) ?_; intro v9 w9 hown9 hgrow9 hnil9; obtain ⟨g9, cap9, rfl⟩ := own_form hown9 (fun e => by have := (hnil9.1 e).2; omega); have HX9 := Lib.hid (HX8.out.grown hgrow9 (own_rowT HCo8.out.r)); have c9 : w9.cell? ⟨w.heap.size + 1 + 1, 4, none⟩ = some (.slice va es.length vc) := cellOf (i := 4) HX9.out.o rfl; have f9 : w9.frozen? ⟨w.heap.size + 1 + 1, 4, none⟩ = false := (by simp [World.frozen?, HX9.out.o]))
     have hfX := HX9.out.setO 4 (.slice (some ⟨g9, 0, none⟩) (es.length + 1) cap9)
     have hfC := (HCo8.out.next (rs[es.length], g7, 0, cap7) HA8.out hgrow9 hown9).setT HX9.out.o 4 (.slice (some ⟨g9, 0, none⟩) (es.length + 1) cap9)
     rw [← List.take_succ_eq_append_getElem hlt] at hfC
     have hfX' : Bx w #[.string S.nm, .int .i64 S.ver, .slice (some ⟨cb, co, none⟩) S.cols.length cc, .slice (some ⟨sb, so, none⟩) S.syms.length sc, .slice (some ⟨rb, ro, none⟩) rs.length rc, .int .i64 S.st] #[.string S.nm, .int .i64 S.ver, (.slice (some ⟨g2, 0, none⟩) S.cols.length cap2), (.slice (some ⟨g3, 0, none⟩) S.syms.length cap3), .slice (some ⟨g9, 0, none⟩) (es.length + 1) cap9, .int .i64 S.st] (w9.setCell ⟨w.heap.size + 1 + 1, 4, none⟩ (.slice (some ⟨g9, 0, none⟩) (es.length + 1) cap9)) := hfX
     clear hfX c9 f9 hown9 hgrow9 HX9 HX8 HCo8
     go_roundw
     case rel => first | exact ⟨es.length + 1, _, _, by omega, by go_num, hfX', hfC⟩ | ((repeat apply Exists.intro); refine ⟨?_, rfl⟩; exact ⟨es.length + 1, _, _, by omega, by go_num, hfX', hfC⟩)
     case measure => simp [RowKit.intOf]; omega
   · have hfull : es.length = rs.length := by omega
     rw [hfull, List.take_length] at hCo
     obtain ⟨va, vc, rfl⟩ : ∃ va vc, rv = .slice va rs.length vc := by
       rw [← hfull]
       rcases hCo.r.2 with ⟨h4, h5⟩ | ⟨g', cap, cur, e1, e2, _⟩
       · rw [h5]; exact ⟨_, _, h4⟩
       · exact ⟨_, _, e1⟩
     have o0 := cellOf (i := 0) hX.o rfl
     have o1 := cellOf (i := 1) hX.o rfl
     have o2 := cellOf (i := 2) hX.o rfl
     have o3 := cellOf (i := 3) hX.o rfl
     have o4 := cellOf (i := 4) hX.o rfl
     have o5 := cellOf (i := 5) hX.o rfl
     have p0 := cellOf (i := 0) hX.q rfl
     have p1 := cellOf (i := 1) hX.q rfl
     have p2 := cellOf (i := 2) hX.q rfl
     have p3 := cellOf (i := 3) hX.q rfl
     have p4 := cellOf (i := 4) hX.q rfl
     have p5 := cellOf (i := 5) hX.q rfl
     have z0 : wr.frozen? ⟨w.heap.size + 1, 0, none⟩ = false := by simp [World.frozen?, hX.q]
     have z1 : wr.frozen? ⟨w.heap.size + 1, 1, none⟩ = false := by simp [World.frozen?, hX.q]
     have z2 : wr.frozen? ⟨w.heap.size + 1, 2, none⟩ = false := by simp [World.frozen?, hX.q]
     have z3 : wr.frozen? ⟨w.heap.size + 1, 3, none⟩ = false := by simp [World.frozen?, hX.q]
     have z4 : wr.frozen? ⟨w.heap.size + 1, 4, none⟩ = false := by simp [World.frozen?, hX.q]
     have z5 : wr.frozen? ⟨w.heap.size + 1, 5, none⟩ = false := by simp [World.frozen?, hX.q]
     have HX := Lib.hid hX
     have HCo := Lib.hid hCo
     clear hX hCo
     have h6 := six HCo.out HX.out.q (.string S.nm) (.int .i64 S.ver) (.slice (some ⟨g2, 0, none⟩) S.cols.length cap2) (.slice (some ⟨g3, 0, none⟩) S.syms.length cap3) (.slice va rs.length vc) (.int .i64 S.st)
     have hb6 := below_six HX.out.b (b := w.heap.size + 1) (by omega) (.string S.nm) (.int .i64 S.ver) (.slice (some ⟨g2, 0, none⟩) S.cols.length cap2) (.slice (some ⟨g3, 0, none⟩) S.syms.length cap3) (.slice va rs.length vc) (.int .i64 S.st)
     have H6 := Lib.hid h6
     have HB6 := Lib.hid hb6
     clear h6 hb6
     go_wp2
     refine bodyPost_ret (results_cell_row (fn := Tryz.f15) rfl _ _ (w.heap.size + 1) 29 _ (0, 0) _ rfl H6.out.2 Tryz.underlying29 rfl size28) rfl ?_
     exact ⟨⟨_, _, _, es, rfl, H6.out.1⟩, HB6.out⟩
end Go.EvPart.N
