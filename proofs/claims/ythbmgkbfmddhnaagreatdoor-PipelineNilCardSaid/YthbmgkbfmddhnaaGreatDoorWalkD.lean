/-
  The contract of Row, for every list of numbers.
-/
import Derived.Test.YthbmgkbfmddhnaaGreatDoorWalkC
import Derived.Deep.CutBlock
set_option linter.all false
namespace Go.EvNil
open Go Go.Proofs Go.RowKit
theorem info41 : (Tryz.prog.info? 41).map (fun i => (i.zero, i.size, i.bytes)) = some (some (.agg #[.int .i64 0, .string ⟨#[]⟩, .int .i64 0, .int .i64 0, .int .i64 0, .slice none 0 0, .slice none 0 0]), 7, 96) := by kernel_rfl

/-- The boxes of the grammar and of the numbers. -/
structure RSt (w : World) (a : Option Addr) (n : Nat) (G : Array Value) (wr : World) : Prop where
  g : wr.heap[w.heap.size]? = some (.cells G 28 (0, 0))
  m : ∃ c K : Nat, wr.heap[w.heap.size + 1]? = some (.cells #[.slice a n c, .int .i64 K] 70 (0, 0))
  b : Below w.heap.size w wr

theorem RSt.num {w wr : World} {a : Option Addr} {n : Nat} {G : Array Value} (h : RSt w a n G wr) (hl : Nums w a n) (hz : ∀ q, a = some q → q.block < w.heap.size) : Num wr (w.heap.size + 1) a n := by
  obtain ⟨c, K, hm⟩ := h.m
  refine ⟨c, K, hm, ?_, fun q hq e => ?_⟩
  · rcases hl with hl | ⟨b, o, rfl, hc⟩
    · exact .inl hl
    · exact .inr ⟨b, o, rfl, fun i hi => by obtain ⟨x, hx⟩ := hc i hi; exact ⟨x, by rw [h.b.cell (cell_lt hx)]; exact hx⟩⟩
  · have := hz q hq; omega

theorem RSt.next {w wr w' : World} {a : Option Addr} {n : Nat} {G : Array Value} (h : RSt w a n G wr) {N : Int} {e : Ending} (hx : Nexts wr (w.heap.size + 1) a n N e w') : RSt w a n G w' := by
  obtain ⟨_, ⟨c, K, hm, _⟩, hz, hk, ho, ht, hp⟩ := hx
  refine ⟨by rw [hk _ (by omega)]; exact h.g, ⟨c, K, hm⟩, ⟨ho.trans h.b.os, ht.trans h.b.tape, hp.trans h.b.output, by rw [hz]; exact h.b.size, fun k hk' => by rw [hk _ (by omega)]; exact h.b.block k hk'⟩⟩
theorem RSt.below {w wr w' : World} {a : Option Addr} {n : Nat} {G : Array Value} (h : RSt w a n G wr) (hb : Below (w.heap.size + 2) wr w') : RSt w a n G w' := by
  obtain ⟨c, K, hm⟩ := h.m
  exact ⟨by rw [hb.block _ (by omega)]; exact h.g, ⟨c, K, by rw [hb.block _ (by omega)]; exact hm⟩, h.b.trans (hb.mono (by omega))⟩
theorem RSt.lt {w wr : World} {a : Option Addr} {n : Nat} {G : Array Value} (h : RSt w a n G wr) : w.heap.size + 2 ≤ wr.heap.size := by
  obtain ⟨c, K, hm⟩ := h.m
  have := heap_lt hm
  omega

theorem ownsRow_keep {w w' : World} {base : Nat} {e : TypeId} {size : Nat} {v : Value} {n : Nat} {xs : List Value} (h : w.ownsRow base e size v n xs) (hk : ∀ g, base ≤ g → v.ownBlock = some g → w'.heap[g]? = w.heap[g]?) : w'.ownsRow base e size v n xs := by
  obtain ⟨h3, h4⟩ := h
  refine ⟨h3, ?_⟩
  rcases h4 with h4 | ⟨g, cap, cur, e1, e2, e3, e4⟩
  · exact .inl h4
  · exact .inr ⟨g, cap, cur, e1, e2, by rw [hk g e2 (by subst e1; rfl)]; exact e3, e4⟩
theorem ownsRow_lt {w : World} {base : Nat} {e : TypeId} {size : Nat} {v : Value} {n : Nat} {xs : List Value} (h : w.ownsRow base e size v n xs) : ∀ g, v.ownBlock = some g → base ≤ g ∧ g < w.heap.size := by
  intro g hg
  obtain ⟨h3, h4⟩ := h
  rcases h4 with ⟨h4, _⟩ | ⟨g', cap, cur, e1, e2, e3, e4⟩
  · subst h4; simp [Value.ownBlock] at hg
  · subst e1
    simp [Value.ownBlock] at hg
    subst hg
    exact ⟨e2, heap_lt e3⟩

/-- The whole state: out, and the box of the value. -/
structure RowV (w : World) (a : Option Addr) (n : Nat) (G : Array Value) (v : Value) (k vb : Nat) (V : Array Value) (wr : World) : Prop where
  r : RSt w a n G wr
  o : ∃ xs, wr.ownsRow (w.heap.size + 2) 41 7 v k xs
  ne : some vb ≠ v.ownBlock
  ge : w.heap.size + 2 ≤ vb
  v : wr.heap[vb]? = some (.cells V 41 (0, 0))

section
variable {w wr w' : World} {a : Option Addr} {n : Nat} {G : Array Value} {v : Value} {k vb : Nat} {V : Array Value}
theorem RowV.next (h : RowV w a n G v k vb V wr) {N : Int} {e : Ending} (hx : Nexts wr (w.heap.size + 1) a n N e w') : RowV w a n G v k vb V w' := by
  have hk := hx.2.2.2.1
  have hge := h.ge
  exact ⟨h.r.next hx, h.o.imp fun xs ho => ownsRow_keep ho fun g hg _ => hk g (by omega), h.ne, h.ge, by rw [hk _ (by omega)]; exact h.v⟩
theorem RowV.below (h : RowV w a n G v k vb V wr) (hb : Below wr.heap.size wr w') : RowV w a n G v k vb V w' :=
  ⟨h.r.below (hb.mono h.r.lt), h.o.imp fun xs ho => ownsRow_below ho hb, h.ne, h.ge, by rw [hb.block _ (heap_lt h.v)]; exact h.v⟩
theorem RowV.alloc (h : RowV w a n G v k vb V wr) (o : Obj) : RowV w a n G v k vb V (wr.alloc o) := h.below ((Below.refl _ _).alloc (Nat.le_refl _) _)
theorem RowV.drew (h : RowV w a n G v k vb V wr) : RowV w a n G v k vb V wr.drew := h.below ((Below.refl _ _).drew)
theorem RowV.set (h : RowV w a n G v k vb V wr) (i : Nat) (u : Value) : RowV w a n G v k vb (V.setIfInBounds i u) (wr.setCell ⟨vb, i, none⟩ u) :=
  ⟨h.r.below ((Below.refl _ _).setCell h.ge _), h.o.imp fun xs ho => ownsRow_keep ho fun g _ hg => Below.heap_setCell _ _ _ _ (fun e => h.ne (by rw [hg, e])), h.ne, h.ge, Joins.block_setCell h.v _⟩
theorem RowV.num (h : RowV w a n G v k vb V wr) (hl : Nums w a n) (hz : ∀ q, a = some q → q.block < w.heap.size) : Num wr (w.heap.size + 1) a n := h.r.num hl hz
end

/-- The form of the value's box. -/
def VForm (V : Array Value) : Prop := ∃ kd s x y z p l c q m d, V = #[.int .i64 kd, .string s, .int .i64 x, .int .i64 y, .int .i64 z, .slice p l c, .slice q m d]

theorem strs_lit {w : World} {b : Nat} {cs : Array Value} {t : TypeId} (h : w.heap[b]? = some (.cells cs t (0, 0))) (hs : ∀ v ∈ cs.toList, ∃ s, v = .string s) (m : Nat) (hm : m < cs.size) : ∃ s, w.cell? ⟨b, m, none⟩ = some (.string s) := by
  obtain ⟨s, e⟩ := hs cs[m] (by simp)
  exact ⟨s, cellOf h (by simp [hm, e])⟩
theorem ints_lit {w : World} {b : Nat} {cs : Array Value} {t : TypeId} (h : w.heap[b]? = some (.cells cs t (0, 0))) (hs : ∀ v ∈ cs.toList, ∃ s, v = .int .i64 s) (m : Nat) (hm : m < cs.size) : ∃ s, w.cell? ⟨b, m, none⟩ = some (.int .i64 s) := by
  obtain ⟨s, e⟩ := hs cs[m] (by simp)
  exact ⟨s, cellOf h (by simp [hm, e])⟩

theorem rowv_next {w : World} {a : Option Addr} {n : Nat} {G : Array Value} {v : Value} {k vb : Nat} {c0 c1 c2 c3 c4 c5 c6 : Value} {w8 w9 : World} {o : Obj} {g cap m : Nat} {ys : List Value} {row : Option Nat} (h : RowV w a n G v k vb #[c0, c1, c2, c3, c4, c5, c6] w8) (hne : some vb ≠ row) (hrow : ∀ b, row = some b → ∃ cs fr, w8.heap[b]? = some (.cells cs 45 fr) ∧ w.heap.size + 2 ≤ b)
    (hown : w9.ownsRow (w.heap.size + 2) 45 1 (.slice (some ⟨g, 0, none⟩) m cap) m ys) (hgrow : (w8.alloc o).grownBy w9 row) :
    RowV w a n G v k vb #[c0, c1, c2, c3, c4, c5, .slice (some ⟨g, 0, none⟩) m cap] (w9.setCell ⟨vb, 6, none⟩ (.slice (some ⟨g, 0, none⟩) m cap)) ∧ (w9.setCell ⟨vb, 6, none⟩ (.slice (some ⟨g, 0, none⟩) m cap)).ownsRow (w.heap.size + 2) 45 1 (.slice (some ⟨g, 0, none⟩) m cap) m ys := by
  have hz := h.r.lt
  have B1 : Below (w.heap.size + 2) w8 w9 := ((Below.refl _ _).alloc hz o).grown hgrow (by simp; omega) (fun b hb => (hrow b hb).choose_spec.choose_spec.2)
  have hb : ∀ b, b < w8.heap.size → some b ≠ row → w9.heap[b]? = w8.heap[b]? := fun b hb hn => by
    rw [hgrow.block b (by simp; omega) hn, heapOld _ _ hb]
  have hv9 : w9.heap[vb]? = some (.cells #[c0, c1, c2, c3, c4, c5, c6] 41 (0, 0)) := by rw [hb vb (heap_lt h.v) hne]; exact h.v
  have h9 : RowV w a n G v k vb #[c0, c1, c2, c3, c4, c5, c6] w9 := by
    refine ⟨h.r.below B1, h.o.imp fun xs ho => ownsRow_keep ho fun b _ hb' => ?_, h.ne, h.ge, hv9⟩
    refine hb b (ownsRow_lt ho b hb').2 fun e => ?_
    obtain ⟨cs, fr, h1, _⟩ := hrow b e.symm
    exact row_ne ho h1 (by decide) hb'.symm
  have hnv := row_ne hown hv9 (by decide)
  exact ⟨h9.set 6 _, ownsRow_keep hown fun b _ hb' => Below.heap_setCell _ _ _ _ (fun e => hnv (by rw [hb', e]))⟩
theorem own_row {w : World} {base : Nat} {e : TypeId} {size : Nat} {v : Value} {n : Nat} {xs : List Value} (h : w.ownsRow base e size v n xs) : ∀ b, v.ownBlock = some b → ∃ cs fr, w.heap[b]? = some (.cells cs e fr) ∧ base ≤ b := by
  intro b hb
  obtain ⟨h3, h4⟩ := h
  rcases h4 with ⟨h4, _⟩ | ⟨g, cap, cur, e1, e2, e3, e4⟩
  · subst h4; simp [Value.ownBlock] at hb
  · subst e1
    simp [Value.ownBlock] at hb
    subst hb
    exact ⟨_, _, e3, e2⟩

def lit3 (m : Nat) : ByteArray := if m = 0 then ⟨#[97]⟩ else if m = 1 then ⟨#[98]⟩ else ⟨#[65]⟩
theorem lit3_at (m : Nat) (hm : m < 3) (W : World) : (W.alloc (.cells #[.string ⟨#[97]⟩, .string ⟨#[98]⟩, .string ⟨#[65]⟩] 9)).cell? ⟨W.heap.size, m, none⟩ = some (.string (lit3 m)) := by
  have : m = 0 ∨ m = 1 ∨ m = 2 := by omega
  rcases this with rfl | rfl | rfl
  all_goals exact cellOf (heapNew _ _) rfl

set_option maxRecDepth 100000 in
set_option maxHeartbeats 8000000 in
theorem row_any (nm ver ss rs st : Value) (ca : Option Addr) (cn cc : Nat) (a : Option Addr) (n c : Nat) (w : World) (hC : Cols w ca cn) (hl : Nums w a n) (hz : ∀ q, a = some q → q.block < w.heap.size) (hm : n ≤ maxLen) :
    Calls Tryz.prog 7 #[.agg #[nm, ver, .slice ca cn cc, ss, rs, st], .slice a n c] w fun e w' => RetSl e ∧ Below w.heap.size w w' := by
  obtain ⟨i0, hi0, hz0, hz1, hz2⟩ := info_parts info41
  obtain ⟨i4, hi4, hy0, hy1, hy2⟩ := info_parts info45
  have hcn := hC.1
  go_enter Tryz.func7, Tryz.ntmps7
  go_wp2
  have hR0 : RSt w a n #[nm, ver, .slice ca cn cc, ss, rs, st] ((w.alloc (.cells #[nm, ver, .slice ca cn cc, ss, rs, st] 28)).alloc (.cells #[.slice a n c, .int .i64 0] 70)) := by
    have z1 := sizeNew w (.cells #[nm, ver, .slice ca cn cc, ss, rs, st] 28)
    refine ⟨?_, ⟨c, 0, ?_⟩, ((Below.refl _ _).alloc (Nat.le_refl _) _).alloc (by simp) _⟩
    · rw [heapOld _ _ (by omega)]; exact heapNew _ _
    · rw [← z1]; exact heapNew _ _
  generalize ((w.alloc (.cells #[nm, ver, .slice ca cn cc, ss, rs, st] 28)).alloc (.cells #[.slice a n c, .int .i64 0] 70)) = w0 at hR0 ⊢
  go_loopw [6, 7] (fun v i wr => ∃ k : Nat, k ≤ cn ∧ i = .int .i64 k ∧ RSt w a n #[nm, ver, .slice ca cn cc, ss, rs, st] wr ∧ ∃ xs, wr.ownsRow (w.heap.size + 2) 41 7 v k xs) (fun _ i _ => cn - (intOf i).toNat)
  case atStart => exact ⟨0, Nat.zero_le _, rfl, hR0, [], World.ownsRow_nil _ _ _ _⟩
  case round =>
    obtain ⟨k, hk, rfl, hR, xs, hown⟩ := hrel
    have e2 : wr.cell? ⟨w.heap.size, 2, none⟩ = some (.slice ca cn cc) := cellOf (i := 2) hR.g rfl
    have hsz := hR.lt
    have hsg : w.heap.size < wr.heap.size := by omega
    have hsm : w.heap.size + 1 < wr.heap.size := by omega
    by_cases hlt : k < cn
    · obtain ⟨cb, co, rfl, hcb, hcc⟩ := (hC.below hR.b).2 (by omega)
      obtain ⟨s, kd, hs, f0, f1⟩ := hcc k hlt
      have j1 : (0 : Int) ≤ (k : Int) := by omega
      have j2 : (k : Int) < (cn : Int) := by omega
      have j3 : (k : Int) ≤ 1000 := by omega
      go_upto_block 2 with fail
      have hV0 : RowV w a n #[nm, ver, .slice (some ⟨cb, co, none⟩) cn cc, ss, rs, st] u6 k wr.heap.size #[.int .i64 kd, .string ⟨#[]⟩, .int .i64 0, .int .i64 0, .int .i64 0, .slice none 0 0, .slice none 0 0] (wr.alloc (.cells #[.int .i64 kd, .string ⟨#[]⟩, .int .i64 0, .int .i64 0, .int .i64 0, .slice none 0 0, .slice none 0 0] 41)) :=
        ⟨hR.below ((Below.refl _ _).alloc hsz _), ⟨xs, hown.alloc _⟩, fun e => by have := (ownsRow_lt hown _ e.symm).2; omega, hsz, heapNew _ _⟩
      clear hown hcc f0 f1 e2 hR hR0
      generalize (wr.alloc (.cells #[.int .i64 kd, .string ⟨#[]⟩, .int .i64 0, .int .i64 0, .int .i64 0, .slice none 0 0, .slice none 0 0] 41)) = w1 at hV0 ⊢
      generalize wr.heap.size = vb at *
      go_cut [] (fun wx => ∃ V, VForm V ∧ RowV w a n #[nm, ver, .slice (some ⟨cb, co, none⟩) cn cc, ss, rs, st] u6 k vb V wx)
      case first =>
        have hz1 := hV0.v
        have Lv := heap_lt hz1
        have g0 := cellOf (i := 0) hz1 rfl
        have HV := Lib.hid hV0
        have HL := Lib.hid hl
        clear hV0 hz1
        by_cases k1 : kd = 1
        · subst k1
          go_wp2_with (go_at_call 22; refine (next_any _ _ a n _ (by decide) (by decide) hm ((HV.out.alloc _).num HL.out hz)).mono ?_; rintro e w5 hx5; have HX := Lib.hid ((HV.out.alloc _).next hx5); have HK := Lib.hid hx5.2.2.2.1; obtain ⟨⟨r, h0, h1, rfl⟩, hx5⟩ := hx5; clear hx5; obtain ⟨m, rfl⟩ : ∃ m : Nat, r = (m : Int) := ⟨r.toNat, by omega⟩; obtain ⟨s1, hs1⟩ : ∃ s, w5.cell? ⟨w1.heap.size, m, none⟩ = some (.string s) := strs_lit (cs := #[.string ⟨#[65]⟩, .string ⟨#[66]⟩, .string ⟨#[97]⟩, .string ⟨#[97, 49]⟩, .string ⟨#[49, 50, 45, 120]⟩, .string ⟨#[]⟩, .string ⟨#[72, 73, 71, 72]⟩, .string ⟨#[88, 49]⟩]) (t := 9) (by rw [HK.out _ (by omega)]; exact heapNew _ _) (by simp) m (by simp; omega); have fz1 : w5.frozen? ⟨vb, 1, none⟩ = false := (by simp [World.frozen?, HX.out.v]); have cz1 : w5.cell? ⟨vb, 1, none⟩ = some (.string ⟨#[]⟩) := cellOf (i := 1) HX.out.v rfl)
          go_meet
          exact ⟨_, ⟨_, _, _, _, _, _, _, _, _, _, _, rfl⟩, HX.out.set 1 _⟩
        by_cases k2 : kd = 2
        · subst k2
          go_upto_region 12 with (go_at_call 22; refine (next_any _ _ a n _ (by decide) (by decide) hm ((HV.out.alloc _).num HL.out hz)).mono ?_; rintro e w5 hx5; have HX := Lib.hid ((HV.out.alloc _).next hx5); have HK := Lib.hid hx5.2.2.2.1; obtain ⟨⟨r, h0, h1, rfl⟩, hx5⟩ := hx5; clear hx5; obtain ⟨m, rfl⟩ : ∃ m : Nat, r = (m : Int) := ⟨r.toNat, by omega⟩; obtain ⟨s1, hs1⟩ : ∃ s, w5.cell? ⟨w1.heap.size, m, none⟩ = some (.int .i64 s) := ints_lit (cs := #[.int .i64 0, .int .i64 1, .int .i64 2, .int .i64 15, .int .i64 25, .int .i64 3, .int .i64 (-4), .int .i64 10]) (t := 3) (by rw [HK.out _ (by omega)]; exact heapNew _ _) (by simp) m (by simp; omega); have fz2 : w5.frozen? ⟨vb, 2, none⟩ = false := (by simp [World.frozen?, HX.out.v]); have cz2 : w5.cell? ⟨vb, 2, none⟩ = some (.int .i64 0) := cellOf (i := 2) HX.out.v rfl; have fz3 : w5.frozen? ⟨vb, 3, none⟩ = false := (by simp [World.frozen?, HX.out.v]); have cz3 : w5.cell? ⟨vb, 3, none⟩ = some (.int .i64 0) := cellOf (i := 3) HX.out.v rfl)
          have HS := Lib.hid ((HX.out.set 2 (.int .i64 s1)).set 3 (.int .i64 0))
          clear HX HV HK h0 h1 hs1 fz2 fz3 cz2 cz3 g0
          generalize ((w5.setCell ⟨vb, 2, none⟩ (.int .i64 s1)).setCell ⟨vb, 3, none⟩ (.int .i64 0)) = w6 at HS ⊢
          have e2 : w6.cell? ⟨vb, 2, none⟩ = some (.int .i64 s1) := cellOf (i := 2) HS.out.v rfl
          cases hb : (s1.tmod 10 != 0)
          · go_wp2
            go_meet
            exact ⟨_, ⟨_, _, _, _, _, _, _, _, _, _, _, rfl⟩, HS.out⟩
          · go_wp2_with (go_at_call 22; refine (next_any _ _ a n _ (by decide) (by decide) hm (HS.out.num HL.out hz)).mono ?_; rintro e w7 hx7; have HX := Lib.hid (HS.out.next hx7); obtain ⟨⟨r7, h0, h1, rfl⟩, hx7⟩ := hx7; clear hx7; have c3 : w7.cell? ⟨vb, 3, none⟩ = some (.int .i64 0) := cellOf (i := 3) HX.out.v rfl; have f3 : w7.frozen? ⟨vb, 3, none⟩ = false := (by simp [World.frozen?, HX.out.v]))
            all_goals (
              go_meet
              first
                | exact ⟨_, ⟨_, _, _, _, _, _, _, _, _, _, _, rfl⟩, HX.out⟩
                | exact ⟨_, ⟨_, _, _, _, _, _, _, _, _, _, _, rfl⟩, HX.out.set 3 _⟩)
        by_cases k3 : kd = 3
        · subst k3
          go_wp2_with (go_at_call 22; refine (next_any _ _ a n _ (by decide) (by decide) hm (HV.out.num HL.out hz)).mono ?_; rintro e w5 hx5; have HX := Lib.hid (HV.out.next hx5); have HK := Lib.hid hx5.2.2.2.1; obtain ⟨⟨r, h0, h1, rfl⟩, hx5⟩ := hx5; clear hx5; obtain ⟨m, rfl⟩ : ∃ m : Nat, r = (m : Int) := ⟨r.toNat, by omega⟩; have fz4 : w5.frozen? ⟨vb, 4, none⟩ = false := (by simp [World.frozen?, HX.out.v]); have cz4 : w5.cell? ⟨vb, 4, none⟩ = some (.int .i64 0) := cellOf (i := 4) HX.out.v rfl)
          go_meet
          exact ⟨_, ⟨_, _, _, _, _, _, _, _, _, _, _, rfl⟩, HX.out.set 4 _⟩
        by_cases k4 : kd = 4
        · subst k4
          go_wp2_with (go_at_call 22; refine (next_any _ _ a n _ (by decide) (by decide) hm (HV.out.num HL.out hz)).mono ?_; rintro e w5 hx5; have HX := Lib.hid (HV.out.next hx5); have HK := Lib.hid hx5.2.2.2.1; obtain ⟨⟨r, h0, h1, rfl⟩, hx5⟩ := hx5; clear hx5; obtain ⟨m, rfl⟩ : ∃ m : Nat, r = (m : Int) := ⟨r.toNat, by omega⟩; have fz4 : w5.frozen? ⟨vb, 4, none⟩ = false := (by simp [World.frozen?, HX.out.v]); have cz4 : w5.cell? ⟨vb, 4, none⟩ = some (.int .i64 0) := cellOf (i := 4) HX.out.v rfl)
          go_meet
          exact ⟨_, ⟨_, _, _, _, _, _, _, _, _, _, _, rfl⟩, HX.out.set 4 _⟩
        by_cases k5 : kd = 5
        · subst k5
          have fz5 : w1.frozen? ⟨vb, 5, none⟩ = false := by simp [World.frozen?, HV.out.v]
          have cz5 : w1.cell? ⟨vb, 5, none⟩ = some (.slice none 0 0) := cellOf (i := 5) HV.out.v rfl
          go_wp2_with (go_at_call 22; refine (next_any _ _ a n 4 (by decide) (by decide) hm (((HV.out.set 5 _).alloc _).num HL.out hz)).mono ?_; rintro e w5 hx5; have HX := Lib.hid (((HV.out.set 5 _).alloc _).next hx5); have HK := Lib.hid hx5.2.2.2.1; obtain ⟨⟨r, h0, h1, rfl⟩, hx5⟩ := hx5; clear hx5; obtain ⟨m, rfl⟩ : ∃ m : Nat, r = (m : Int) := ⟨r.toNat, by omega⟩)
          have HS : Hid (RowV w a n #[nm, ver, .slice (some ⟨cb, co, none⟩) cn cc, ss, rs, st] u6 k vb #[.int .i64 5, .string ⟨#[]⟩, .int .i64 0, .int .i64 0, .int .i64 0, .slice (some ⟨w1.heap.size, 0, none⟩) 2 2, .slice none 0 0] w5) := Lib.hid HX.out
          clear HX HV HK g0 fz5 cz5
          generalize w1.heap.size = sb at HS ⊢
          go_loopw [10] (fun i wr => ∃ j : Nat, j ≤ m ∧ i = .int .i64 j ∧ ∃ rv ys, RowV w a n #[nm, ver, .slice (some ⟨cb, co, none⟩) cn cc, ss, rs, st] u6 k vb #[.int .i64 5, .string ⟨#[]⟩, .int .i64 0, .int .i64 0, .int .i64 0, .slice (some ⟨sb, 0, none⟩) 2 2, rv] wr ∧ wr.ownsRow (w.heap.size + 2) 45 1 rv j ys) (fun i _ => m - (intOf i).toNat)
          case atStart => exact ⟨0, Nat.zero_le _, rfl, _, [], HS.out, World.ownsRow_nil _ _ _ _⟩
          case round =>
            clear HS
            obtain ⟨j, hj, rfl, rv, ys, hV, hO⟩ := hrel
            obtain ⟨ra, rc, rfl⟩ : ∃ ra rc, rv = .slice ra j rc := by
              obtain ⟨h3, h4⟩ := hO
              rcases h4 with ⟨h4, h5⟩ | ⟨g', cap, cur, e1, e2, _⟩
              · subst h5; exact ⟨_, _, h4⟩
              · exact ⟨_, _, e1⟩
            by_cases hjm : j < m
            · have j4 : (j : Int) < (m : Int) := by omega
              have c6 : wr.cell? ⟨vb, 6, none⟩ = some (.slice ra j rc) := cellOf (i := 6) hV.v rfl
              have f6 : wr.frozen? ⟨vb, 6, none⟩ = false := by simp [World.frozen?, hV.v]
              have hvl := heap_lt hV.v
              have hge := hV.ge
              have HN := Lib.hid (row_ne hO hV.v (by decide))
              have HV := Lib.hid hV
              have HO := Lib.hid hO
              clear hV hO
              go_wp2
              go_region_law (first
                | (have hg8 := hi8; refine step_append_lies _ (by rfl) _ _ _ (by rfl) (w.heap.size + 2) 45 i4 _ 1 24 Tryz.underlying39 hi4 hy0 hy1 hy2 rfl (by decide) (.slice ra j rc) j ys (by rfl) (HO8.out.alloc _) ⟨w8.heap.size, 0, none⟩ 1 1 [.slice p1 n1 c1] (by rfl) (by rfl) (World.news_of_block (cs := #[.slice p1 n1 c1]) (t := 45) (fr := (0, 0)) (heap_alloc_new w8 _)) (by simp [Value.oneCell']) (by decide) (by unfold maxLen; omega) (by omega) (by simp; omega) (w8.heap.size + 1) (by simp) ?_; intro g cap w9 hown hgrow hat hlt; have k9 : w9.cell? ⟨vb, 6, none⟩ = some (.slice ra j rc) := (by rw [hgrow.cell_far _ (by simp; omega) HN.out, ((Below.refl w8.heap.size w8).alloc (Nat.le_refl _) _).cell hi8]; exact c8); have f9 : w9.frozen? ⟨vb, 6, none⟩ = false := (by rw [hgrow.frozen_far _ (by simp; omega) HN.out, ((Below.refl w8.heap.size w8).alloc (Nat.le_refl _) _).frozen hi8]; exact f8))
                | (have hgm2 := hm2; go_simp; go_at_call 32; refine (item_any _ _ _).mono ?_; rintro e w8 ⟨⟨p1, n1, c1, rfl⟩, hb8⟩; have HX8 : Hid (RowV w a n #[nm, ver, .slice (some ⟨cb, co, none⟩) cn cc, ss, rs, st] u6 k vb #[.int .i64 5, .string ⟨#[]⟩, .int .i64 0, .int .i64 0, .int .i64 0, .slice (some ⟨sb, 0, none⟩) 2 2, .slice ra j rc] w8) := (by first | exact Lib.hid ((HX7.out.alloc _).below hb8) | exact Lib.hid (HX7.out.below hb8)); have HO8 : Hid (w8.ownsRow (w.heap.size + 2) 45 1 (.slice ra j rc) j ys) := (by first | exact Lib.hid (ownsRow_below (HO7.out.alloc _) hb8) | exact Lib.hid (ownsRow_below HO7.out hb8)); have c8 : w8.cell? ⟨vb, 6, none⟩ = some (.slice ra j rc) := cellOf (i := 6) HX8.out.v rfl; have f8 : w8.frozen? ⟨vb, 6, none⟩ = false := (by simp [World.frozen?, HX8.out.v]); have hi8 : vb < w8.heap.size := heap_lt HX8.out.v)
                | (have hgm1 := hm1; go_simp; go_at_call 22; refine (next_any _ _ a n _ (by decide) (by decide) hm (by first | exact (HX5.out.alloc _).num HL.out hz | exact HX5.out.num HL.out hz)).mono ?_; rintro e w7 hx7; have HX7 : Hid (RowV w a n #[nm, ver, .slice (some ⟨cb, co, none⟩) cn cc, ss, rs, st] u6 k vb #[.int .i64 5, .string ⟨#[]⟩, .int .i64 0, .int .i64 0, .int .i64 0, .slice (some ⟨sb, 0, none⟩) 2 2, .slice ra j rc] w7) := (by first | exact Lib.hid ((HX5.out.alloc _).next hx7) | exact Lib.hid (HX5.out.next hx7)); have HO7 : Hid (w7.ownsRow (w.heap.size + 2) 45 1 (.slice ra j rc) j ys) := (by first | exact Lib.hid (ownsRow_keep (HO5.out.alloc _) fun g hg _ => hx7.2.2.2.1 g (by omega)) | exact Lib.hid (ownsRow_keep HO5.out fun g hg _ => hx7.2.2.2.1 g (by omega))); have hq7 := hlit w7; have hv7 := heap_lt HX7.out.v; (first | (have hs7 : w7.cell? ⟨wr.heap.size, m1, none⟩ = some (.string (lit3 m1)) := (by rw [World.cell?_of_block (hx7.2.2.2.1 _ (by show wr.heap.size ≠ _; omega))]; exact hs5)) | (have hs7 : w7.cell? ⟨w5.heap.size, m1, none⟩ = some (.string (lit3 m1)) := (by rw [World.cell?_of_block (hx7.2.2.2.1 _ (by show w5.heap.size ≠ _; omega))]; exact hlit w5)) | skip); obtain ⟨⟨r2, hm2, hm2', rfl⟩, hx7⟩ := hx7; clear hx7; have c7 : w7.cell? ⟨vb, 6, none⟩ = some (.slice ra j rc) := cellOf (i := 6) HX7.out.v rfl)
                | (go_simp; go_at_call 22; refine (next_any _ _ a n _ (by decide) (by decide) hm (by first | exact (HV.out.drew.alloc _).num HL.out hz | exact HV.out.drew.num HL.out hz)).mono ?_; rintro e w5 hx5; have HX5 : Hid (RowV w a n #[nm, ver, .slice (some ⟨cb, co, none⟩) cn cc, ss, rs, st] u6 k vb #[.int .i64 5, .string ⟨#[]⟩, .int .i64 0, .int .i64 0, .int .i64 0, .slice (some ⟨sb, 0, none⟩) 2 2, .slice ra j rc] w5) := (by first | exact Lib.hid ((HV.out.drew.alloc _).next hx5) | exact Lib.hid (HV.out.drew.next hx5)); have HO5 : Hid (w5.ownsRow (w.heap.size + 2) 45 1 (.slice ra j rc) j ys) := (by first | exact Lib.hid (ownsRow_keep (World.ownsRow.alloc (w := wr.drew) HO.out _) fun g hg _ => hx5.2.2.2.1 g (by omega)) | exact Lib.hid (ownsRow_keep (w := wr.drew) HO.out fun g hg _ => hx5.2.2.2.1 g (by omega))); have hk5 := hx5.2.2.2.1; obtain ⟨⟨r1, hm1, hm1', rfl⟩, hx5⟩ := hx5; clear hx5; obtain ⟨m1, rfl⟩ : ∃ m : Nat, r1 = (m : Int) := ⟨r1.toNat, by omega⟩; have hlit := lit3_at m1 (by omega); have hq5 := hlit w5; have hv5 := heap_lt HX5.out.v; (first | (have hs5 : w5.cell? ⟨wr.heap.size, m1, none⟩ = some (.string (lit3 m1)) := (by rw [World.cell?_of_block (hk5 _ (by show wr.heap.size ≠ _; omega))]; exact hlit wr.drew)) | skip); clear hk5; have c5 : w5.cell? ⟨vb, 6, none⟩ = some (.slice ra j rc) := cellOf (i := 6) HX5.out.v rfl))
              all_goals (
                have hfin := Lib.hid (rowv_next HX8.out HN.out (own_row HO8.out) hown hgrow)
                clear c6 f6 c5 c7 c8 f8 k9 f9 hq5 hq7 hlit HV HO HX5 HO5 HX7 HO7 HO8 hown hgrow HX8
                go_wp2
                exact ⟨⟨j + 1, by omega, by go_num, _, _, hfin.out.1, hfin.out.2⟩, by simp [intOf]; omega⟩)
            · go_wp2
              go_meet
              exact ⟨_, ⟨_, _, _, _, _, _, _, _, _, _, _, rfl⟩, hV⟩
        have q1 : (kd == 1) = false := by simpa using k1
        have q2 : (kd == 2) = false := by simpa using k2
        have q3 : (kd == 3) = false := by simpa using k3
        have q4 : (kd == 4) = false := by simpa using k4
        have q5 : (kd == 5) = false := by simpa using k5
        go_wp2
        go_meet
        exact ⟨_, ⟨_, _, _, _, _, _, _, _, _, _, _, rfl⟩, HV.out⟩
      case rest =>
        obtain ⟨V, ⟨kd', s', x', y', z', p', l', c', q', m', d', rfl⟩, hV⟩ := hcut
        have HV := Lib.hid hV
        have HL := Lib.hid hl
        clear hV hl
        go_upto_if 91 with (go_at_call 22; refine (next_any _ _ a n _ (by decide) (by decide) hm (HV.out.num HL.out hz)).mono ?_; rintro e w5 hx5; have HX := Lib.hid (HV.out.next hx5); have HK := Lib.hid hx5.2.2.2.1; obtain ⟨⟨r, h0, h1, rfl⟩, hx5⟩ := hx5; clear hx5; obtain ⟨m, rfl⟩ : ∃ m : Nat, r = (m : Int) := ⟨r.toNat, by omega⟩; have d0 := cellOf (i := 0) HX.out.v rfl; have d1 := cellOf (i := 1) HX.out.v rfl; have d2 := cellOf (i := 2) HX.out.v rfl; have d3 := cellOf (i := 3) HX.out.v rfl; have d4 := cellOf (i := 4) HX.out.v rfl; have d5 := cellOf (i := 5) HX.out.v rfl; have d6 := cellOf (i := 6) HX.out.v rfl; have fz0 : w5.frozen? ⟨vb, 0, none⟩ = false := (by simp [World.frozen?, HX.out.v]); have fz1 : w5.frozen? ⟨vb, 1, none⟩ = false := (by simp [World.frozen?, HX.out.v]); have fz2 : w5.frozen? ⟨vb, 2, none⟩ = false := (by simp [World.frozen?, HX.out.v]); have fz3 : w5.frozen? ⟨vb, 3, none⟩ = false := (by simp [World.frozen?, HX.out.v]); have fz4 : w5.frozen? ⟨vb, 4, none⟩ = false := (by simp [World.frozen?, HX.out.v]); have fz5 : w5.frozen? ⟨vb, 5, none⟩ = false := (by simp [World.frozen?, HX.out.v]); have fz6 : w5.frozen? ⟨vb, 6, none⟩ = false := (by simp [World.frozen?, HX.out.v]))
        clear HK HV
        go_cut [] (fun wx => ∃ V, VForm V ∧ RowV w a n #[nm, ver, .slice (some ⟨cb, co, none⟩) cn cc, ss, rs, st] u6 k vb V wx)
        case first =>
          by_cases h11 : m = 11
          · subst h11
            go_wp2
            go_meet
            exact ⟨_, ⟨_, _, _, _, _, _, _, _, _, _, _, rfl⟩, ((((((HX.out.set 0 _).set 1 _).set 2 _).set 3 _).set 4 _).set 5 _).set 6 _⟩
          · have h12 : ((m : Int) == 11) = false := by simp; omega
            go_wp2
            go_meet
            exact ⟨_, ⟨_, _, _, _, _, _, _, _, _, _, _, rfl⟩, HX.out⟩
        case rest =>
          clear HX d0 d1 d2 d3 d4 d5 d6 fz0 fz1 fz2 fz3 fz4 fz5 fz6 h0 h1
          obtain ⟨V, ⟨kd2, s2, x2, y2, z2, p2, l2, c2, q2, m2, dd2, rfl⟩, hV⟩ := hcut
          have d0 := cellOf (i := 0) hV.v rfl
          have d1 := cellOf (i := 1) hV.v rfl
          have d2 := cellOf (i := 2) hV.v rfl
          have d3 := cellOf (i := 3) hV.v rfl
          have d4 := cellOf (i := 4) hV.v rfl
          have d5 := cellOf (i := 5) hV.v rfl
          have d6 := cellOf (i := 6) hV.v rfl
          have HV := Lib.hid hV
          obtain ⟨xs, hown⟩ := hV.o
          have HO := Lib.hid hown
          have hzc := hV.r.lt
          clear hV hown
          go_wp2_with (at_builtin; refine wpList_append_own _ rfl _ _ 45 rfl (w.heap.size + 2) 41 i0 _ 7 96 Tryz.underlying45 hi0 hz0 hz1 hz2 rfl (by decide) _ k xs rfl (HO.out.alloc _) ⟨wc.heap.size, 0, none⟩ 1 1 [.int .i64 kd2, .string s2, .int .i64 x2, .int .i64 y2, .int .i64 z2, .slice p2 l2 c2, .slice q2 m2 dd2] rfl rfl (World.news_of_block (cs := #[.int .i64 kd2, .string s2, .int .i64 x2, .int .i64 y2, .int .i64 z2, .slice p2 l2 c2, .slice q2 m2 dd2]) (t := 41) (fr := (0, 0)) (heap_alloc_new wc _)) (by simp [Value.oneCell']) (by unfold maxLen; omega) (by omega) (by simp; omega) ?_; intro v6 w6 hown6 hgrow6 _)
          have HR6 : RSt w a n #[nm, ver, .slice (some ⟨cb, co, none⟩) cn cc, ss, rs, st] w6 := HV.out.r.below (((Below.refl _ _).alloc hzc _).grown hgrow6 (by simp; omega) (fun g hg => (ownsRow_lt HO.out g hg).1))
          clear d0 d1 d2 d3 d4 d5 d6 HO HV
          go_wp2
          go_roundw
          case rel => first | exact ⟨k + 1, by omega, by go_num, HR6, _, hown6⟩ | ((repeat apply Exists.intro); refine ⟨?_, rfl⟩; exact ⟨k + 1, by omega, by go_num, HR6, _, hown6⟩)
          case measure => simp [intOf]; omega
    · have HB := Lib.hid hR.b
      obtain ⟨va, vc, rfl⟩ : ∃ va vc, u6 = .slice va k vc := by
        obtain ⟨h3, h4⟩ := hown
        rcases h4 with ⟨h4, h5⟩ | ⟨g', cap, cur, e1, e2, _⟩
        · subst h5; exact ⟨_, _, h4⟩
        · exact ⟨_, _, e1⟩
      go_wp2
      go_ret
      exact ⟨⟨_, _, _, rfl⟩, HB.out⟩
end Go.EvNil
