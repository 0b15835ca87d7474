/- ItemPartials, one part of the proof: PartS5. -/
import Derived.Test.YtljoobbnhbaklaaGreatDoorP28
import Derived.Test.YtljoobbnhbaklaaGreatDoorP25
set_option linter.all false
set_option maxRecDepth 100000
set_option maxHeartbeats 16000000
namespace Go.EvPart
open Go Go.Proofs Go.RowKit Go.EvNil
theorem own_slice {w : World} {base : Nat} {e : TypeId} {size : Nat} {v : Value} {n : Nat} {xs : List Value} (h : w.ownsRow base e size v n xs) : ∃ va vc, v = .slice va n vc := by
 rcases h.2 with ⟨e1, e2⟩ | ⟨g, cap, cur, e1, _⟩
 · exact ⟨none, 0, by rw [e1, e2]⟩
 · exact ⟨_, cap, e1⟩
theorem NumRow.kept {w w' : World} {b n : Nat} {f : Nat -> Nat} (h : NumRow w b n f) (hk : KeepI w w') : NumRow w' b n f := by
 obtain ⟨arr, h1, h2, h3⟩ := h.at'
 exact ⟨heap_lt' (hk _ _ _ h1), arr, hk _ _ _ h1, h2, h3⟩
theorem infoQ : (Tryz.prog.info? 65).map (fun i => (i.zero, i.size, i.bytes)) = some (some (.slice none 0 0), 1, 24) := by kernel_rfl
theorem mkLists (n : Nat) (h1 : 1 <= n) (h5 : n <= 6) : ∀ (w : World), (Instr.makeSlice 65 (.int .i64 n) (.int .i64 n)).run Tryz.prog w = .ok (.slice (some ⟨w.heap.size, 0, none⟩) n n) (w.alloc (.cells (Array.replicate n (.slice none 0 0)) 61)) := by
 have : n = 1 ∨ n = 2 ∨ n = 3 ∨ n = 4 ∨ n = 5 ∨ n = 6 := by omega
 rcases this with rfl | rfl | rfl | rfl | rfl | rfl
 all_goals (intro w; kernel_rfl)
section
variable {S : Sample} {M : Nat -> Nat} {rs : List Rl} {ca sa : Option Addr} {cc sc rb ro rc : Nat} {w : World}
def CapAt (w : World) (rb ro : Nat) (rs : List Rl) : Prop := rb < w.heap.size /\ ∀ i (hi : i < rs.length) (aa : Option Addr) (ac : Nat), w.cell? ⟨rb, ro + i * 4 + 3, none⟩ = some (.slice aa rs[i].args.length ac) -> rs[i].args.length <= ac
theorem CapAt.below {w w' : World} {rb ro : Nat} {rs : List Rl} (h : CapAt w rb ro rs) (hb : Below w.heap.size w w') : CapAt w' rb ro rs :=
 ⟨Nat.lt_of_lt_of_le h.1 hb.size, fun i hi aa ac hc => h.2 i hi aa ac ((hb.cell (p := ⟨rb, ro + i * 4 + 3, none⟩) h.1).symm.trans hc)⟩
def RetSized (S : Sample) (M : Nat -> Nat) (rs : List Rl) (m : Nat) (e : Ending) (w' : World) : Prop := ∃ v need, e = .returned v /\ TabV w' v S.syms.length (fun s => min (M s) m + 1) (tab rs (fun s => min (M s) m + 1) need m) /\ NeedOk M rs S.st rs.length need
attribute [local irreducible] wpStill wpAnyH in
theorem sized_any (h : Gr S M rs ca sa cc sc rb ro rc w) (hcap : CapAt w rb ro rs) (h9 : rs.length <= 9) (m : Nat) (hm1 : 1 <= m) (hm5 : m <= 5) :
   Calls Tryz.prog 18 #[.agg (gA S rs ca sa cc sc rb ro rc), .int .i64 m] w fun e w' => RetSized S M rs m e w' /\ Below w.heap.size w w' := by
 have HN := Lib.hid (fun W (hW : Below w.heap.size w W) => needs_any (h.below hW))
 have HX := GB.new w (gA S rs ca sa cc sc rb ro rc)
 have hsn0 := h.ok.syms0
 have hsn := h.ok.syms
 have hst := h.ok.st
 have HM := Lib.hid h.lim
 have HRU := Lib.hid (fun r (hr : r ∈ rs) => h.ok.rule r (h.sub.subset hr))
 obtain ⟨sb, so, hse, hsb, hsc⟩ := h.y
 have HY := Lib.hid (fun W (hW : Below w.heap.size w W) i (hi : i < S.syms.length) => (hW.cell (p := ⟨sb, so + i * 3 + 2, none⟩) hsb).trans (hsc i hi).2.2)
 subst hse
 have HR := Lib.hid h.r
 have HCAP := Lib.hid hcap
 obtain ⟨iQ, hiQ, hq0, hq1, hq2⟩ := info_parts infoQ
 obtain ⟨Z, hZ⟩ : ∃ Z : Nat -> Nat, Z = fun s => min (M s) m + 1 := ⟨_, rfl⟩
 have HZ := Lib.hid hZ
 have hZ6 : ∀ s, 1 <= Z s /\ Z s <= 6 := fun s => by rw [hZ]; dsimp only; omega
 have HZ6 := Lib.hid hZ6
 clear h hsc hZ hZ6 hcap
 go_enter Tryz.func18, Tryz.ntmps18
 go_wp2
 have HG1 : GB w (gA S rs ca (some ⟨sb, so, none⟩) cc sc rb ro rc) ((w.alloc (.cells (gA S rs ca (some ⟨sb, so, none⟩) cc sc rb ro rc) 29)).alloc (.cells #[.string S.nm, .int .i64 S.ver, .slice ca S.cols.length cc, .slice (some ⟨sb, so, none⟩) S.syms.length sc, .slice (some ⟨rb, ro, none⟩) rs.length rc, .int .i64 S.st, .slice none 0 0] 108)) := HX.below ((Below.refl _ _).alloc (Nat.le_refl _) _)
 have HB1 : BoxIs ((w.alloc (.cells (gA S rs ca (some ⟨sb, so, none⟩) cc sc rb ro rc) 29)).alloc (.cells #[.string S.nm, .int .i64 S.ver, .slice ca S.cols.length cc, .slice (some ⟨sb, so, none⟩) S.syms.length sc, .slice (some ⟨rb, ro, none⟩) rs.length rc, .int .i64 S.st, .slice none 0 0] 108)) (w.heap.size + 1) 108 #[.string S.nm, .int .i64 S.ver, .slice ca S.cols.length cc, .slice (some ⟨sb, so, none⟩) S.syms.length sc, .slice (some ⟨rb, ro, none⟩) rs.length rc, .int .i64 S.st, .slice none 0 0] := by
   have := BoxIs.new (w.alloc (.cells (gA S rs ca (some ⟨sb, so, none⟩) cc sc rb ro rc) 29)) 108 #[.string S.nm, .int .i64 S.ver, .slice ca S.cols.length cc, .slice (some ⟨sb, so, none⟩) S.syms.length sc, .slice (some ⟨rb, ro, none⟩) rs.length rc, .int .i64 S.st, .slice none 0 0]
   rw [sizeNew] at this; exact this
 have hbase1 : w.heap.size + 2 <= ((w.alloc (.cells (gA S rs ca (some ⟨sb, so, none⟩) cc sc rb ro rc) 29)).alloc (.cells #[.string S.nm, .int .i64 S.ver, .slice ca S.cols.length cc, .slice (some ⟨sb, so, none⟩) S.syms.length sc, .slice (some ⟨rb, ro, none⟩) rs.length rc, .int .i64 S.st, .slice none 0 0] 108)).heap.size := by simp
 clear HX
 generalize (w.alloc (.cells (gA S rs ca (some ⟨sb, so, none⟩) cc sc rb ro rc) 29)).alloc (.cells #[.string S.nm, .int .i64 S.ver, .slice ca S.cols.length cc, .slice (some ⟨sb, so, none⟩) S.syms.length sc, .slice (some ⟨rb, ro, none⟩) rs.length rc, .int .i64 S.st, .slice none 0 0] 108) = w1 at *
 go_loopw [6] (fun i wr => ∃ (k : Nat) (v : Value) (bs : Nat -> Nat), k <= S.syms.length /\ i = .int .i64 k /\ w.heap.size + 2 <= wr.heap.size /\ GB w (gA S rs ca (some ⟨sb, so, none⟩) cc sc rb ro rc) wr /\ BoxIs wr (w.heap.size + 1) 108 #[.string S.nm, .int .i64 S.ver, .slice ca S.cols.length cc, .slice (some ⟨sb, so, none⟩) S.syms.length sc, .slice (some ⟨rb, ro, none⟩) rs.length rc, .int .i64 S.st, v] /\ Tb (w.heap.size + 2) wr v k Z bs (fun _ _ => .slice none 0 0) (fun _ _ => [])) (fun i _ => S.syms.length - (intOf i).toNat)
 case atStart => exact ⟨0, .slice none 0 0, fun _ => 0, Nat.zero_le _, rfl, hbase1, HG1, HB1, ⟨World.ownsRow_nil _ _ _ _, fun s hs => by omega, fun s i hs => by omega, fun s t hs => by omega, fun s i t j hs => by omega⟩⟩
 case round =>
   clear HG1 HB1 hbase1
   obtain ⟨k, v, bs, hk, rfl, hbase, HG, HBX, hT⟩ := hrel
   have g3 := cellOf (i := 3) HG.g rfl
   have c6 := cellOf (i := 6) HBX rfl
   have HG0 := heap_lt' HG.g
   have lbx := heap_lt' HBX
   by_cases hlt : k < S.syms.length
   · have j1 : (0 : Int) <= (k : Int) := by omega
     have j2 : (k : Int) < (S.syms.length : Int) := by omega
     have cm := HY.out _ HG.b _ hlt
     have hM := HM.out k
     have hsbr : sb < wr.heap.size := Nat.lt_of_lt_of_le hsb HG.b.size
     have j3 : (M k : Int) <= 5 := by omega
     have j4 : (m : Int) <= 5 := by omega
     obtain ⟨z, hz⟩ : ∃ z, z = Z k := ⟨_, rfl⟩
     have hz6 := HZ6.out k
     rw [← hz] at hz6
     have hmk := mkLists z hz6.1 hz6.2
     have hzv : z = min (M k) m + 1 := by rw [hz, HZ.out]
     have HZK := Lib.hid hz
     have hzv1 : min (M k : Int) (m : Int) + 1 = (z : Int) := by omega
     clear hz hzv
     go_wp2
     have B0 : Below wr.heap.size wr wr.drew := (Below.refl _ _).drew
     refine wp_region_held_drew (S := (fun W => W.cell? ⟨w.heap.size, 3, none⟩ = some (.slice (some ⟨sb, so, none⟩) S.syms.length sc) /\ W.cell? ⟨sb, so + k * 3 + 2, none⟩ = some (.int .i64 (M k)))) (by kernel_rfl) ⟨g3, cm⟩ (fun hHeld0 => ?_)
     refine tkD (i := 0) (d := some 21) (v := ?_) rfl rfl (Or.inl ⟨by rfl, ?_⟩) (by assumption) ?_
     rotate_left
     · intro w hSw; (try dsimp only at hSw); (go_simp <;> with_reducible rfl)
     try simp only [Qa, Qb, Qc, Qd]
     refine tkD (i := 1) (d := some 22) (v := ?_) rfl rfl (Or.inl ⟨by rfl, ?_⟩) (by assumption) ?_
     rotate_left
     · intro w hSw; (try dsimp only at hSw); (go_simp <;> with_reducible rfl)
     try simp only [Qa, Qb, Qc, Qd]
     refine tkD (i := 2) (d := some 23) (v := ?_) rfl rfl (Or.inl ⟨by rfl, ?_⟩) (by assumption) ?_
     rotate_left
     · intro w hSw; (try dsimp only at hSw); (go_simp <;> with_reducible rfl)
     try simp only [Qa, Qb, Qc, Qd]
     refine tkD (i := 3) (d := some 24) (v := ?_) rfl rfl (Or.inl ⟨by rfl, ?_⟩) (by assumption) ?_
     rotate_left
     · intro w hSw; (try dsimp only at hSw); (go_simp <;> with_reducible rfl)
     try simp only [Qa, Qb, Qc, Qd]
     refine tkD (i := 5) (d := some 26) (v := ?_) rfl rfl (Or.inl ⟨by rfl, ?_⟩) (by assumption) ?_
     rotate_left
     · intro w hSw; (try dsimp only at hSw); (go_simp <;> with_reducible rfl)
     try simp only [Qa, Qb, Qc, Qd]
     refine tkD (i := 6) (d := some 27) (v := ?_) rfl rfl (Or.inl ⟨by rfl, ?_⟩) (by assumption) ?_
     rotate_left
     · intro w hSw; (try dsimp only at hSw); (go_simp <;> with_reducible rfl)
     try simp only [Qa, Qb, Qc, Qd]
     refine tkD (i := 7) (d := some 28) (v := ?_) rfl rfl (Or.inl ⟨by rfl, ?_⟩) (by assumption) ?_
     rotate_left
     · intro w hSw; (try dsimp only at hSw); (go_simp <;> with_reducible rfl)
     try simp only [Qa, Qb, Qc, Qd]
     refine tkD (i := 8) (d := some 29) (v := ?_) rfl rfl (Or.inl ⟨by rfl, ?_⟩) (by assumption) ?_
     rotate_left
     · intro w hSw; (try dsimp only at hSw); (go_simp <;> with_reducible rfl)
     try simp only [Qa, Qb, Qc, Qd]
     refine tkD (i := 9) (d := some 30) (v := ?_) rfl rfl (Or.inl ⟨by rfl, ?_⟩) (by assumption) ?_
     rotate_left
     · intro w hSw; (try dsimp only at hSw); (go_simp <;> with_reducible rfl)
     try simp only [Qa, Qb, Qc, Qd]
     refine tkD (i := 10) (d := some 31) (v := ?_) rfl rfl (Or.inl ⟨by rfl, ?_⟩) (by assumption) ?_
     rotate_left
     · intro w hSw; (try dsimp only at hSw); (go_simp <;> with_reducible rfl)
     try simp only [Qa, Qb, Qc, Qd]
     refine tkD (i := 11) (d := some 32) (v := ?_) rfl rfl (Or.inl ⟨by rfl, ?_⟩) (by assumption) ?_
     rotate_left
     · intro w hSw; (try dsimp only at hSw); (go_simp <;> with_reducible rfl)
     try simp only [Qa, Qb, Qc, Qd]
     refine tkD (i := 12) (d := some 33) (v := ?_) rfl rfl (Or.inl ⟨by rfl, ?_⟩) (by assumption) ?_
     rotate_left
     · intro w hSw; (try dsimp only at hSw); (go_simp <;> with_reducible rfl)
     try simp only [Qa, Qb, Qc, Qd]
     have hmn : IntKind.i64.wrap (min (M k : Int) (m : Int) + 1) = (z : Int) := by
       rw [hzv1]; exact IntWalk.i64_in _ ⟨by omega, by omega⟩
     refine tkD (i := 13) (d := some 34) (v := ?_) rfl rfl (Or.inl ⟨by rfl, ?_⟩) (by assumption) ?_
     rotate_left
     · intro w hSw; (try dsimp only at hSw); (go_simp <;> with_reducible rfl)
     try simp only [Qa, Qb, Qc, Qd]
     have hwz : IntKind.i64.wrap (z : Int) = (z : Int) := IntWalk.i64_in _ ⟨by omega, by omega⟩
     try rw [hmn]
     try rw [hwz]
     have HNW : ∀ b', b' = wr.heap.size + 1 -> ((wr.drew.alloc (.cells (Array.replicate z (.slice none 0 0)) 61)).alloc (.cells #[.slice (some ⟨wr.heap.size, 0, none⟩) z z] 65)).heap[b']? = some (Obj.cells #[.slice (some ⟨wr.heap.size, 0, none⟩) z z] 65 (0, 0)) := fun b' hb' => by
       have := heapNew (wr.drew.alloc (.cells (Array.replicate z (.slice none 0 0)) 61)) (.cells #[.slice (some ⟨wr.heap.size, 0, none⟩) z z] 65)
       rw [sizeNew] at this
       rw [hb']; exact this
     refine wpAnyH_ready (rs := [4, 14]) (by kernel_rfl) (by simp) ?_
     refine AllReadyH.cons (o := _) rfl (fun K hK => ?_) (AllReadyH.cons (o := _) rfl (fun K hK => ?_) AllReadyH.nil)
     · go_simp
       refine hK.out _ _ ?_ (fun hHeld => ?_)
       · exact ⟨g3, cm⟩
       clear hK K
       try simp only [Qa, Qb, Qc, Qd]
       refine wpAnyH_ready (rs := [14]) (by kernel_rfl) (by simp) ?_
       refine AllReadyH.cons (o := _) rfl (fun K hK => ?_) AllReadyH.nil
       go_simp
       have B1 := B0.alloc (Nat.le_refl _) (.cells (Array.replicate z (.slice none 0 0)) 61)
       refine hK.out _ _ ?_ (fun hHeld => ?_)
       · exact ⟨(B1.cell HG0).trans g3, (B1.cell hsbr).trans cm⟩
       clear hK K
       try simp only [Qa, Qb, Qc, Qd]
       refine wpAnyH_ready (rs := [15]) (by kernel_rfl) (by simp) ?_
       refine AllReadyH.cons (o := _) rfl (fun K hK => ?_) AllReadyH.nil
       go_simp
       have B2 := B1.alloc B1.size (.cells #[.slice (some ⟨wr.heap.size, 0, none⟩) z z] 65)
       refine hK.out _ _ ?_ (fun hHeld => ?_)
       · exact ⟨(B2.cell HG0).trans g3, (B2.cell hsbr).trans cm⟩
       clear hK K
       try simp only [Qa, Qb, Qc, Qd]
       refine wpAnyH_ready (rs := [16]) (by kernel_rfl) (by simp) ?_
       refine AllReadyH.cons (o := _) rfl (fun K hK => ?_) AllReadyH.nil
       refine step_append_liesD (d := some 37) _ rfl rfl _ _ 62 rfl (w.heap.size + 2) 65 iQ _ 1 24 Tryz.underlying62 hiQ hq0 hq1 hq2 rfl (by decide) v k _ rfl (hT.below B2).row ⟨wr.heap.size + 1, 0, none⟩ 1 1 [.slice (some ⟨wr.heap.size, 0, none⟩) z z] rfl rfl (World.news_of_block (cs := #[.slice (some ⟨wr.heap.size, 0, none⟩) z z]) (t := 65) (fr := (0, 0)) (HNW _ rfl)) (by simp [Value.oneCell']) (by decide) (by unfold maxLen; omega) (by omega) (Nat.le_trans hbase B2.size) _ rfl ?_
       intro g6 cap6 w6 hown6 hgrow6 _ _
       have hB6 := fun (b : Nat) (cs : Array Value) (t : TypeId) (fr : Nat × Nat) (hb : wr.heap[b]? = some (Obj.cells cs t fr)) (ht : t ≠ 65) => show w6.heap[b]? = some (Obj.cells cs t fr) by
         have hb2 : ((wr.drew.alloc (.cells (Array.replicate z (.slice none 0 0)) 61)).alloc (.cells #[.slice (some ⟨wr.heap.size, 0, none⟩) z z] 65)).heap[b]? = some (Obj.cells cs t fr) := by rw [B2.block b (heap_lt' hb)]; exact hb
         rw [hgrow6.block b (heap_lt' hb2) (rowNe (hT.below B2).row hb2 ht)]; exact hb2
       have c66 : w6.cell? ⟨w.heap.size + 1, 6, none⟩ = some v := cellOf (hB6 _ _ _ _ HBX (by decide)) rfl
       have fr66 : w6.frozen? ⟨w.heap.size + 1, 6, none⟩ = false := by simp [World.frozen?, hB6 _ _ _ _ HBX (by decide)]
       have g36 : w6.cell? ⟨w.heap.size, 3, none⟩ = _ := cellOf (hB6 _ _ _ _ HG.g (by decide)) rfl
       have cm6 : w6.cell? ⟨sb, so + k * 3 + 2, none⟩ = some (.int .i64 (M k)) := (hgrow6.cell_far ⟨sb, so + k * 3 + 2, none⟩ (Nat.lt_of_lt_of_le hsbr B2.size) (row_ge (hT.below B2).row (show sb < w.heap.size + 2 by omega))).trans ((B2.cell hsbr).trans cm)
       refine hK.out _ _ ?_ (fun hHeld => ?_)
       · exact ⟨g36, cm6⟩
       clear hK K
       try simp only [Qa, Qb, Qc, Qd]
       refine tkD (i := 17) (d := some 38) (v := ?_) rfl rfl (Or.inl ⟨by rfl, ?_⟩) (by assumption) ?_
       rotate_left
       · intro w hSw; (try dsimp only at hSw); (go_simp <;> with_reducible rfl)
       try simp only [Qa, Qb, Qc, Qd]
       refine tkD (i := 18) (d := some 39) (v := ?_) rfl rfl (Or.inl ⟨by rfl, ?_⟩) (by assumption) ?_
       rotate_left
       · intro w hSw; (try dsimp only at hSw); (go_simp <;> with_reducible rfl)
       try simp only [Qa, Qb, Qc, Qd]
       refine wpAnyH_ready (rs := [19]) (by kernel_rfl) (by simp) ?_
       refine AllReadyH.cons (o := _) rfl (fun K hK => ?_) AllReadyH.nil
       go_simp
       refine hK.out _ _ ?_ (fun hHeld => ?_)
       · exact ⟨(World.cell?_of_block (Below.heap_setCell _ _ _ _ (show w.heap.size ≠ w.heap.size + 1 by omega))).trans g36, (World.cell?_of_block (Below.heap_setCell _ _ _ _ (show sb ≠ w.heap.size + 1 by omega))).trans cm6⟩
       clear hK K
       try simp only [Qa, Qb, Qc, Qd]
       refine wpAnyH_done (by kernel_rfl) ?_ _
       have hT2 := hT.below B2
       have hnew : ((wr.drew.alloc (.cells (Array.replicate z (.slice none 0 0)) 61)).alloc (.cells #[.slice (some ⟨wr.heap.size, 0, none⟩) z z] 65)).heap[wr.heap.size]? = some (Obj.cells (Array.replicate (Z k) (.slice none 0 0)) 61 (0, 0)) := by
         rw [← HZK.out, heapOld _ _ (by rw [sizeNew]; exact Nat.lt_succ_self _)]; exact heapNew _ _
       have hown6' : w6.ownsRow (w.heap.size + 2) 65 1 (.slice (some ⟨g6, 0, none⟩) (k + 1) cap6) (k + 1) (((List.range k).map fun s => .slice (some ⟨bs s, 0, none⟩) (Z s) (Z s)) ++ [.slice (some ⟨wr.heap.size, 0, none⟩) (Z k) (Z k)]) := by rw [← HZK.out]; exact hown6
       have hT6 := Tb.next hT2 hbase hnew (fun s hs => Nat.ne_of_lt (by obtain ⟨_, arr, g, _⟩ := hT.blk s hs; exact heap_lt' g)) (fun _ => rfl) (fun _ => rfl) hown6' hgrow6
       have HB6x := hB6 _ _ _ _ HBX (by decide)
       have hT7 := hT6.set (i := 6) (x := .slice (some ⟨g6, 0, none⟩) (k + 1) cap6) HB6x (by decide) (by decide) (by decide) (by decide)
       have HBX7 : BoxIs (w6.setCell ⟨w.heap.size + 1, 6, none⟩ (.slice (some ⟨g6, 0, none⟩) (k + 1) cap6)) (w.heap.size + 1) 108 #[.string S.nm, .int .i64 S.ver, .slice ca S.cols.length cc, .slice (some ⟨sb, so, none⟩) S.syms.length sc, .slice (some ⟨rb, ro, none⟩) rs.length rc, .int .i64 S.st, .slice (some ⟨g6, 0, none⟩) (k + 1) cap6] := Joins.block_setCell HB6x _
       have hbw6 : Below w.heap.size w w6 := (HG.b.trans (B2.mono HG.b.size)).grown hgrow6 (Nat.le_trans HG.b.size B2.size) (fun g hg => by
         rcases Nat.lt_or_ge g (w.heap.size + 2) with hl | hl
         · exact absurd hg.symm (row_ge hT2.row hl)
         · omega)
       have HG7 : GB w (gA S rs ca (some ⟨sb, so, none⟩) cc sc rb ro rc) (w6.setCell ⟨w.heap.size + 1, 6, none⟩ (.slice (some ⟨g6, 0, none⟩) (k + 1) cap6)) := GB.set (wr := w6) ⟨hbw6, hB6 _ _ _ _ HG.g (by decide)⟩ (Nat.lt_succ_self _)
       have hbase7 : w.heap.size + 2 <= (w6.setCell ⟨w.heap.size + 1, 6, none⟩ (.slice (some ⟨g6, 0, none⟩) (k + 1) cap6)).heap.size := by
         have := heap_lt' HBX7
         omega
       clear HG HBX hT hT2 hnew hown6 hown6' hgrow6 hT6 HB6x hB6 c66 fr66 g36 cm6 B1 B2 B0 HNW hHeld hHeld0 hmk
       generalize (w6.setCell ⟨w.heap.size + 1, 6, none⟩ (.slice (some ⟨g6, 0, none⟩) (k + 1) cap6)) = w7 at *
       generalize (Value.slice (some ⟨g6, 0, none⟩) (k + 1) cap6) = v7 at *
       go_wp2
       go_roundw
       case rel => first | exact ⟨k + 1, v7, _, by omega, by go_num, hbase7, HG7, HBX7, hT7⟩ | ((repeat apply Exists.intro); refine ⟨?_, rfl⟩; exact ⟨k + 1, v7, _, by omega, by go_num, hbase7, HG7, HBX7, hT7⟩)
       case measure => simp [intOf]; omega
     · go_simp
       have B1 := B0.alloc (Nat.le_refl _) (.cells (Array.replicate z (.slice none 0 0)) 61)
       refine hK.out _ _ ?_ (fun hHeld => ?_)
       · exact ⟨(B1.cell HG0).trans g3, (B1.cell hsbr).trans cm⟩
       clear hK K
       try simp only [Qa, Qb, Qc, Qd]
       refine wpAnyH_ready (rs := [4, 15]) (by kernel_rfl) (by simp) ?_
       refine AllReadyH.cons (o := _) rfl (fun K hK => ?_) (AllReadyH.cons (o := _) rfl (fun K hK => ?_) AllReadyH.nil)
       · go_simp
         refine hK.out _ _ ?_ (fun hHeld => ?_)
         · exact ⟨(B1.cell HG0).trans g3, (B1.cell hsbr).trans cm⟩
         clear hK K
         try simp only [Qa, Qb, Qc, Qd]
         refine wpAnyH_ready (rs := [15]) (by kernel_rfl) (by simp) ?_
         refine AllReadyH.cons (o := _) rfl (fun K hK => ?_) AllReadyH.nil
         go_simp
         have B2 := B1.alloc B1.size (.cells #[.slice (some ⟨wr.heap.size, 0, none⟩) z z] 65)
         refine hK.out _ _ ?_ (fun hHeld => ?_)
         · exact ⟨(B2.cell HG0).trans g3, (B2.cell hsbr).trans cm⟩
         clear hK K
         try simp only [Qa, Qb, Qc, Qd]
         refine wpAnyH_ready (rs := [16]) (by kernel_rfl) (by simp) ?_
         refine AllReadyH.cons (o := _) rfl (fun K hK => ?_) AllReadyH.nil
         refine step_append_liesD (d := some 37) _ rfl rfl _ _ 62 rfl (w.heap.size + 2) 65 iQ _ 1 24 Tryz.underlying62 hiQ hq0 hq1 hq2 rfl (by decide) v k _ rfl (hT.below B2).row ⟨wr.heap.size + 1, 0, none⟩ 1 1 [.slice (some ⟨wr.heap.size, 0, none⟩) z z] rfl rfl (World.news_of_block (cs := #[.slice (some ⟨wr.heap.size, 0, none⟩) z z]) (t := 65) (fr := (0, 0)) (HNW _ rfl)) (by simp [Value.oneCell']) (by decide) (by unfold maxLen; omega) (by omega) (Nat.le_trans hbase B2.size) _ rfl ?_
         intro g6 cap6 w6 hown6 hgrow6 _ _
         have hB6 := fun (b : Nat) (cs : Array Value) (t : TypeId) (fr : Nat × Nat) (hb : wr.heap[b]? = some (Obj.cells cs t fr)) (ht : t ≠ 65) => show w6.heap[b]? = some (Obj.cells cs t fr) by
           have hb2 : ((wr.drew.alloc (.cells (Array.replicate z (.slice none 0 0)) 61)).alloc (.cells #[.slice (some ⟨wr.heap.size, 0, none⟩) z z] 65)).heap[b]? = some (Obj.cells cs t fr) := by rw [B2.block b (heap_lt' hb)]; exact hb
           rw [hgrow6.block b (heap_lt' hb2) (rowNe (hT.below B2).row hb2 ht)]; exact hb2
         have c66 : w6.cell? ⟨w.heap.size + 1, 6, none⟩ = some v := cellOf (hB6 _ _ _ _ HBX (by decide)) rfl
         have fr66 : w6.frozen? ⟨w.heap.size + 1, 6, none⟩ = false := by simp [World.frozen?, hB6 _ _ _ _ HBX (by decide)]
         have g36 : w6.cell? ⟨w.heap.size, 3, none⟩ = _ := cellOf (hB6 _ _ _ _ HG.g (by decide)) rfl
         have cm6 : w6.cell? ⟨sb, so + k * 3 + 2, none⟩ = some (.int .i64 (M k)) := (hgrow6.cell_far ⟨sb, so + k * 3 + 2, none⟩ (Nat.lt_of_lt_of_le hsbr B2.size) (row_ge (hT.below B2).row (show sb < w.heap.size + 2 by omega))).trans ((B2.cell hsbr).trans cm)
         refine hK.out _ _ ?_ (fun hHeld => ?_)
         · exact ⟨g36, cm6⟩
         clear hK K
         try simp only [Qa, Qb, Qc, Qd]
         refine tkD (i := 17) (d := some 38) (v := ?_) rfl rfl (Or.inl ⟨by rfl, ?_⟩) (by assumption) ?_
         rotate_left
         · intro w hSw; (try dsimp only at hSw); (go_simp <;> with_reducible rfl)
         try simp only [Qa, Qb, Qc, Qd]
         refine tkD (i := 18) (d := some 39) (v := ?_) rfl rfl (Or.inl ⟨by rfl, ?_⟩) (by assumption) ?_
         rotate_left
         · intro w hSw; (try dsimp only at hSw); (go_simp <;> with_reducible rfl)
         try simp only [Qa, Qb, Qc, Qd]
         refine wpAnyH_ready (rs := [19]) (by kernel_rfl) (by simp) ?_
         refine AllReadyH.cons (o := _) rfl (fun K hK => ?_) AllReadyH.nil
         go_simp
         refine hK.out _ _ ?_ (fun hHeld => ?_)
         · exact ⟨(World.cell?_of_block (Below.heap_setCell _ _ _ _ (show w.heap.size ≠ w.heap.size + 1 by omega))).trans g36, (World.cell?_of_block (Below.heap_setCell _ _ _ _ (show sb ≠ w.heap.size + 1 by omega))).trans cm6⟩
         clear hK K
         try simp only [Qa, Qb, Qc, Qd]
         refine wpAnyH_done (by kernel_rfl) ?_ _
         have hT2 := hT.below B2
         have hnew : ((wr.drew.alloc (.cells (Array.replicate z (.slice none 0 0)) 61)).alloc (.cells #[.slice (some ⟨wr.heap.size, 0, none⟩) z z] 65)).heap[wr.heap.size]? = some (Obj.cells (Array.replicate (Z k) (.slice none 0 0)) 61 (0, 0)) := by
           rw [← HZK.out, heapOld _ _ (by rw [sizeNew]; exact Nat.lt_succ_self _)]; exact heapNew _ _
         have hown6' : w6.ownsRow (w.heap.size + 2) 65 1 (.slice (some ⟨g6, 0, none⟩) (k + 1) cap6) (k + 1) (((List.range k).map fun s => .slice (some ⟨bs s, 0, none⟩) (Z s) (Z s)) ++ [.slice (some ⟨wr.heap.size, 0, none⟩) (Z k) (Z k)]) := by rw [← HZK.out]; exact hown6
         have hT6 := Tb.next hT2 hbase hnew (fun s hs => Nat.ne_of_lt (by obtain ⟨_, arr, g, _⟩ := hT.blk s hs; exact heap_lt' g)) (fun _ => rfl) (fun _ => rfl) hown6' hgrow6
         have HB6x := hB6 _ _ _ _ HBX (by decide)
         have hT7 := hT6.set (i := 6) (x := .slice (some ⟨g6, 0, none⟩) (k + 1) cap6) HB6x (by decide) (by decide) (by decide) (by decide)
         have HBX7 : BoxIs (w6.setCell ⟨w.heap.size + 1, 6, none⟩ (.slice (some ⟨g6, 0, none⟩) (k + 1) cap6)) (w.heap.size + 1) 108 #[.string S.nm, .int .i64 S.ver, .slice ca S.cols.length cc, .slice (some ⟨sb, so, none⟩) S.syms.length sc, .slice (some ⟨rb, ro, none⟩) rs.length rc, .int .i64 S.st, .slice (some ⟨g6, 0, none⟩) (k + 1) cap6] := Joins.block_setCell HB6x _
         have hbw6 : Below w.heap.size w w6 := (HG.b.trans (B2.mono HG.b.size)).grown hgrow6 (Nat.le_trans HG.b.size B2.size) (fun g hg => by
           rcases Nat.lt_or_ge g (w.heap.size + 2) with hl | hl
           · exact absurd hg.symm (row_ge hT2.row hl)
           · omega)
         have HG7 : GB w (gA S rs ca (some ⟨sb, so, none⟩) cc sc rb ro rc) (w6.setCell ⟨w.heap.size + 1, 6, none⟩ (.slice (some ⟨g6, 0, none⟩) (k + 1) cap6)) := GB.set (wr := w6) ⟨hbw6, hB6 _ _ _ _ HG.g (by decide)⟩ (Nat.lt_succ_self _)
         have hbase7 : w.heap.size + 2 <= (w6.setCell ⟨w.heap.size + 1, 6, none⟩ (.slice (some ⟨g6, 0, none⟩) (k + 1) cap6)).heap.size := by
           have := heap_lt' HBX7
           omega
         clear HG HBX hT hT2 hnew hown6 hown6' hgrow6 hT6 HB6x hB6 c66 fr66 g36 cm6 B1 B2 B0 HNW hHeld hHeld0 hmk
         generalize (w6.setCell ⟨w.heap.size + 1, 6, none⟩ (.slice (some ⟨g6, 0, none⟩) (k + 1) cap6)) = w7 at *
         generalize (Value.slice (some ⟨g6, 0, none⟩) (k + 1) cap6) = v7 at *
         go_wp2
         go_roundw
         case rel => first | exact ⟨k + 1, v7, _, by omega, by go_num, hbase7, HG7, HBX7, hT7⟩ | ((repeat apply Exists.intro); refine ⟨?_, rfl⟩; exact ⟨k + 1, v7, _, by omega, by go_num, hbase7, HG7, HBX7, hT7⟩)
         case measure => simp [intOf]; omega
       · go_simp
         have B2 := B1.alloc B1.size (.cells #[.slice (some ⟨wr.heap.size, 0, none⟩) z z] 65)
         refine hK.out _ _ ?_ (fun hHeld => ?_)
         · exact ⟨(B2.cell HG0).trans g3, (B2.cell hsbr).trans cm⟩
         clear hK K
         try simp only [Qa, Qb, Qc, Qd]
         refine wpAnyH_ready (rs := [4]) (by kernel_rfl) (by simp) ?_
         refine AllReadyH.cons (o := _) rfl (fun K hK => ?_) AllReadyH.nil
         go_simp
         refine hK.out _ _ ?_ (fun hHeld => ?_)
         · exact ⟨(B2.cell HG0).trans g3, (B2.cell hsbr).trans cm⟩
         clear hK K
         try simp only [Qa, Qb, Qc, Qd]
         refine wpAnyH_ready (rs := [16]) (by kernel_rfl) (by simp) ?_
         refine AllReadyH.cons (o := _) rfl (fun K hK => ?_) AllReadyH.nil
         refine step_append_liesD (d := some 37) _ rfl rfl _ _ 62 rfl (w.heap.size + 2) 65 iQ _ 1 24 Tryz.underlying62 hiQ hq0 hq1 hq2 rfl (by decide) v k _ rfl (hT.below B2).row ⟨wr.heap.size + 1, 0, none⟩ 1 1 [.slice (some ⟨wr.heap.size, 0, none⟩) z z] rfl rfl (World.news_of_block (cs := #[.slice (some ⟨wr.heap.size, 0, none⟩) z z]) (t := 65) (fr := (0, 0)) (HNW _ rfl)) (by simp [Value.oneCell']) (by decide) (by unfold maxLen; omega) (by omega) (Nat.le_trans hbase B2.size) _ rfl ?_
         intro g6 cap6 w6 hown6 hgrow6 _ _
         have hB6 := fun (b : Nat) (cs : Array Value) (t : TypeId) (fr : Nat × Nat) (hb : wr.heap[b]? = some (Obj.cells cs t fr)) (ht : t ≠ 65) => show w6.heap[b]? = some (Obj.cells cs t fr) by
           have hb2 : ((wr.drew.alloc (.cells (Array.replicate z (.slice none 0 0)) 61)).alloc (.cells #[.slice (some ⟨wr.heap.size, 0, none⟩) z z] 65)).heap[b]? = some (Obj.cells cs t fr) := by rw [B2.block b (heap_lt' hb)]; exact hb
           rw [hgrow6.block b (heap_lt' hb2) (rowNe (hT.below B2).row hb2 ht)]; exact hb2
         have c66 : w6.cell? ⟨w.heap.size + 1, 6, none⟩ = some v := cellOf (hB6 _ _ _ _ HBX (by decide)) rfl
         have fr66 : w6.frozen? ⟨w.heap.size + 1, 6, none⟩ = false := by simp [World.frozen?, hB6 _ _ _ _ HBX (by decide)]
         have g36 : w6.cell? ⟨w.heap.size, 3, none⟩ = _ := cellOf (hB6 _ _ _ _ HG.g (by decide)) rfl
         have cm6 : w6.cell? ⟨sb, so + k * 3 + 2, none⟩ = some (.int .i64 (M k)) := (hgrow6.cell_far ⟨sb, so + k * 3 + 2, none⟩ (Nat.lt_of_lt_of_le hsbr B2.size) (row_ge (hT.below B2).row (show sb < w.heap.size + 2 by omega))).trans ((B2.cell hsbr).trans cm)
         refine hK.out _ _ ?_ (fun hHeld => ?_)
         · exact ⟨g36, cm6⟩
         clear hK K
         try simp only [Qa, Qb, Qc, Qd]
         refine tkD (i := 17) (d := some 38) (v := ?_) rfl rfl (Or.inl ⟨by rfl, ?_⟩) (by assumption) ?_
         rotate_left
         · intro w hSw; (try dsimp only at hSw); (go_simp <;> with_reducible rfl)
         try simp only [Qa, Qb, Qc, Qd]
         refine tkD (i := 18) (d := some 39) (v := ?_) rfl rfl (Or.inl ⟨by rfl, ?_⟩) (by assumption) ?_
         rotate_left
         · intro w hSw; (try dsimp only at hSw); (go_simp <;> with_reducible rfl)
         try simp only [Qa, Qb, Qc, Qd]
         refine wpAnyH_ready (rs := [19]) (by kernel_rfl) (by simp) ?_
         refine AllReadyH.cons (o := _) rfl (fun K hK => ?_) AllReadyH.nil
         go_simp
         refine hK.out _ _ ?_ (fun hHeld => ?_)
         · exact ⟨(World.cell?_of_block (Below.heap_setCell _ _ _ _ (show w.heap.size ≠ w.heap.size + 1 by omega))).trans g36, (World.cell?_of_block (Below.heap_setCell _ _ _ _ (show sb ≠ w.heap.size + 1 by omega))).trans cm6⟩
         clear hK K
         try simp only [Qa, Qb, Qc, Qd]
         refine wpAnyH_done (by kernel_rfl) ?_ _
         have hT2 := hT.below B2
         have hnew : ((wr.drew.alloc (.cells (Array.replicate z (.slice none 0 0)) 61)).alloc (.cells #[.slice (some ⟨wr.heap.size, 0, none⟩) z z] 65)).heap[wr.heap.size]? = some (Obj.cells (Array.replicate (Z k) (.slice none 0 0)) 61 (0, 0)) := by
           rw [← HZK.out, heapOld _ _ (by rw [sizeNew]; exact Nat.lt_succ_self _)]; exact heapNew _ _
         have hown6' : w6.ownsRow (w.heap.size + 2) 65 1 (.slice (some ⟨g6, 0, none⟩) (k + 1) cap6) (k + 1) (((List.range k).map fun s => .slice (some ⟨bs s, 0, none⟩) (Z s) (Z s)) ++ [.slice (some ⟨wr.heap.size, 0, none⟩) (Z k) (Z k)]) := by rw [← HZK.out]; exact hown6
         have hT6 := Tb.next hT2 hbase hnew (fun s hs => Nat.ne_of_lt (by obtain ⟨_, arr, g, _⟩ := hT.blk s hs; exact heap_lt' g)) (fun _ => rfl) (fun _ => rfl) hown6' hgrow6
         have HB6x := hB6 _ _ _ _ HBX (by decide)
         have hT7 := hT6.set (i := 6) (x := .slice (some ⟨g6, 0, none⟩) (k + 1) cap6) HB6x (by decide) (by decide) (by decide) (by decide)
         have HBX7 : BoxIs (w6.setCell ⟨w.heap.size + 1, 6, none⟩ (.slice (some ⟨g6, 0, none⟩) (k + 1) cap6)) (w.heap.size + 1) 108 #[.string S.nm, .int .i64 S.ver, .slice ca S.cols.length cc, .slice (some ⟨sb, so, none⟩) S.syms.length sc, .slice (some ⟨rb, ro, none⟩) rs.length rc, .int .i64 S.st, .slice (some ⟨g6, 0, none⟩) (k + 1) cap6] := Joins.block_setCell HB6x _
         have hbw6 : Below w.heap.size w w6 := (HG.b.trans (B2.mono HG.b.size)).grown hgrow6 (Nat.le_trans HG.b.size B2.size) (fun g hg => by
           rcases Nat.lt_or_ge g (w.heap.size + 2) with hl | hl
           · exact absurd hg.symm (row_ge hT2.row hl)
           · omega)
         have HG7 : GB w (gA S rs ca (some ⟨sb, so, none⟩) cc sc rb ro rc) (w6.setCell ⟨w.heap.size + 1, 6, none⟩ (.slice (some ⟨g6, 0, none⟩) (k + 1) cap6)) := GB.set (wr := w6) ⟨hbw6, hB6 _ _ _ _ HG.g (by decide)⟩ (Nat.lt_succ_self _)
         have hbase7 : w.heap.size + 2 <= (w6.setCell ⟨w.heap.size + 1, 6, none⟩ (.slice (some ⟨g6, 0, none⟩) (k + 1) cap6)).heap.size := by
           have := heap_lt' HBX7
           omega
         clear HG HBX hT hT2 hnew hown6 hown6' hgrow6 hT6 HB6x hB6 c66 fr66 g36 cm6 B1 B2 B0 HNW hHeld hHeld0 hmk
         generalize (w6.setCell ⟨w.heap.size + 1, 6, none⟩ (.slice (some ⟨g6, 0, none⟩) (k + 1) cap6)) = w7 at *
         generalize (Value.slice (some ⟨g6, 0, none⟩) (k + 1) cap6) = v7 at *
         go_wp2
         go_roundw
         case rel => first | exact ⟨k + 1, v7, _, by omega, by go_num, hbase7, HG7, HBX7, hT7⟩ | ((repeat apply Exists.intro); refine ⟨?_, rfl⟩; exact ⟨k + 1, v7, _, by omega, by go_num, hbase7, HG7, HBX7, hT7⟩)
         case measure => simp [intOf]; omega
   · obtain rfl : k = S.syms.length := by omega
     have HG' := HG
     have g0 := cellOf (i := 0) HG.g rfl
     have g1 := cellOf (i := 1) HG.g rfl
     have g2 := cellOf (i := 2) HG.g rfl
     have g4 := cellOf (i := 4) HG.g rfl
     have g5 := cellOf (i := 5) HG.g rfl
     go_wp2_with (go_at_call 44; refine (HN.out _ HG.b).mono ?_; rintro e w8 ⟨⟨nb, f, rfl, hNR, hNO⟩, hb8⟩)
     have HG8 := HG.below hb8
     have HBX8 := HBX.below hb8
     have hT8 : Tb (w.heap.size + 2) w8 v S.syms.length Z bs (fun _ _ => .slice none 0 0) (tab rs Z f 0) := hT.below hb8
     have hbase8 : w.heap.size + 2 <= w8.heap.size := Nat.le_trans hbase hb8.size
     obtain ⟨lb, lc, rfl, hlb0, _, _, _⟩ := hT8.read hsn0
     clear HG HG' HBX hT g0 g1 g2 g3 g4 g5 c6 HG0 lbx hb8 hbase HN
     go_loopw [8] (fun i wr => ∃ (n : Nat) (E : Nat -> Nat -> Value), 1 <= n /\ n <= m + 1 /\ i = .int .i64 n /\ w.heap.size + 2 <= wr.heap.size /\ GB w (gA S rs ca (some ⟨sb, so, none⟩) cc sc rb ro rc) wr /\ BoxIs wr (w.heap.size + 1) 108 #[.string S.nm, .int .i64 S.ver, .slice ca S.cols.length cc, .slice (some ⟨sb, so, none⟩) S.syms.length sc, .slice (some ⟨rb, ro, none⟩) rs.length rc, .int .i64 S.st, .slice (some ⟨lb, 0, none⟩) S.syms.length lc] /\ NumRow wr nb S.syms.length f /\ Tb (w.heap.size + 2) wr (.slice (some ⟨lb, 0, none⟩) S.syms.length lc) S.syms.length Z bs E (tab rs Z f (n - 1))) (fun i _ => m + 1 - (intOf i).toNat)
     case atStart => exact ⟨1, _, by omega, by omega, rfl, hbase8, HG8, HBX8, hNR, hT8⟩
     case round =>
       clear hNR HG8 HBX8 hT8 hbase8
       obtain ⟨n, E, hn1, hnm, rfl, hbase, HG, HBX, hNR, hT⟩ := hrel
       by_cases hle : n <= m
       · have j0 : (n : Int) <= (m : Int) := by omega
         have hT0 : Tb (w.heap.size + 2) wr (.slice (some ⟨lb, 0, none⟩) S.syms.length lc) S.syms.length Z bs E (part rs Z f (n - 1) 0) := hT.congr fun s i => (part_start rs Z f (n - 1) s i).symm
         go_wp2
         go_loopw [9] (fun i wr => ∃ (k : Nat) (E : Nat -> Nat -> Value), k <= rs.length /\ i = .int .i64 k /\ w.heap.size + 2 <= wr.heap.size /\ GB w (gA S rs ca (some ⟨sb, so, none⟩) cc sc rb ro rc) wr /\ BoxIs wr (w.heap.size + 1) 108 #[.string S.nm, .int .i64 S.ver, .slice ca S.cols.length cc, .slice (some ⟨sb, so, none⟩) S.syms.length sc, .slice (some ⟨rb, ro, none⟩) rs.length rc, .int .i64 S.st, .slice (some ⟨lb, 0, none⟩) S.syms.length lc] /\ NumRow wr nb S.syms.length f /\ Tb (w.heap.size + 2) wr (.slice (some ⟨lb, 0, none⟩) S.syms.length lc) S.syms.length Z bs E (part rs Z f (n - 1) k)) (fun i _ => rs.length - (intOf i).toNat)
         case atStart => exact ⟨0, E, Nat.zero_le _, rfl, hbase, HG, HBX, hNR, hT0⟩
         case round =>
           clear hNR HG HBX hT hT0 hbase
           obtain ⟨k, E, hk, rfl, hbase, HG, HBX, hNR, hT⟩ := hrel
           have g4 := cellOf (i := 4) HG.g rfl
           have lg := heap_lt' HG.g
           have c6 := cellOf (i := 6) HBX rfl
           have lbx := heap_lt' HBX
           by_cases hlt : k < rs.length
           · obtain ⟨rb', ro', e', hrb, hrc⟩ := HR.out
             cases e'
             obtain ⟨aa, ac, hr⟩ := hrc k hlt
             have hac := HCAP.out.2 k hlt aa ac hr.c3
             have q0 := (HG.b.cell hrb).trans hr.c0
             have q3 := (HG.b.cell hrb).trans hr.c3
             have HA := Lib.hid (hr.args.below (HG.b))
             obtain ⟨hh, hal, harg, _, _⟩ := HRU.out _ (List.getElem_mem hlt)
             have j1 : (0 : Int) <= (k : Int) := by omega
             have j2 : (k : Int) < (rs.length : Int) := by omega
             have j3 : (0 : Int) <= (rs[k].h : Int) := by omega
             have j4 : (rs[k].h : Int) < (S.syms.length : Int) := by omega
             have j5 : (0 : Int) <= (n : Int) := by omega
             have cn := hNR.cell hh
             obtain ⟨lb', lc', e', _, hlbw, _, hrd⟩ := hT.read hsn0
             cases e'
             have cl := hrd _ hh
             have hf5 := hNO.le rs[k].h
             have hz6 := HZ6.out rs[k].h
             have j6 : (Z rs[k].h : Int) <= 6 := by omega
             have j7 : (f rs[k].h : Int) <= 5 := by omega
             clear hrc hr
             by_cases hc : n < Z rs[k].h /\ n <= f rs[k].h
             · obtain ⟨hc1, hc2⟩ := hc
               have e1 : (n : Int) < (Z rs[k].h : Int) := by omega
               have e2 : (n : Int) <= (f rs[k].h : Int) := by omega
               go_upto_region 15 with fail
               have hnn : n - 1 + 1 = n := by omega
               have hPR := part_prg (rs := rs) (M := M) (Z := Z) (need := f) (fun s => by rw [HZ.out]; dsimp only; omega) (n - 1) k
               have hTA : TabAt wr (w.heap.size + 1) S.syms.length Z (part rs Z f (n - 1) k) := (hT.tabV hsn0).at' c6 lbx
               obtain ⟨res, hres⟩ : ∃ res, lists (part rs Z f (n - 1) k) Z [(k : Int)] rs[k].args (n - 1) = res := ⟨_, rfl⟩
               have HJ := Lib.hid (fun W (hW : Below wr.heap.size wr W) (hL : ListT W (some ⟨wr.heap.size, 0, none⟩) [(k : Int)]) => show Calls Tryz.prog 45 #[.pointer (some ⟨w.heap.size + 1, 0, none⟩), .slice (some ⟨wr.heap.size, 0, none⟩) 1 1, .slice aa rs[k].args.length ac, .int .i64 ((n : Int) - 1)] W fun e w' => RetL res e w' /\ Below W.heap.size W w' from by
                 have := rjoin_any (w.heap.size + 1) S.syms.length Z (part rs Z f (n - 1) k) wr hTA (part_len h9 (n - 1) k (by omega)) (fun a => (HZ6.out a).2) (fun a i q hq => by
                   have P := hPR a i q hq
                   have h1 := P.len
                   have h2 := P.pos
                   have h3 := P.le
                   have h4 := (HM.out a).2
                   omega) rs[k].args harg hal [(k : Int)] (n - 1) 1 ac (some ⟨wr.heap.size, 0, none⟩) aa W hW hL (by simp) (by simp; omega) (by simp) (HA.out.below hW) hac (by omega)
                 rw [hres, show ((n - 1 : Nat) : Int) = (n : Int) - 1 by omega] at this
                 exact this)
               have hpu := part_upd rs Z f (n - 1) k hlt
               rw [hnn, hres] at hpu
               have hpu := hpu hc1 hc2
               have hlen : (part rs Z f (n - 1) k rs[k].h n).length + res.length <= 61917364224 := by
                 have h1 := part_len (rs := rs) (Z := Z) (need := f) h9 (n - 1) (k + 1) (by omega) rs[k].h n
                 rw [← hpu, updE_at, List.length_append] at h1
                 have h2 : (144 : Nat) ^ n <= 144 ^ 5 := Nat.pow_le_pow_right (by omega) (by omega)
                 exact Nat.le_trans h1 h2
               have HPU := Lib.hid hpu
               obtain ⟨hbs0, arrh, hblk, hblz, hble⟩ := hT.blk _ hh
               have ce := cellOf hblk (hble n hc1)
               have lbs := heap_lt' hblk
               obtain ⟨iP, hiP, hp0, hp1, hp2⟩ := info_parts infoP
               have n1 : (n : Int) <= 5 := by omega
               have n2 : (1 : Int) <= (n : Int) := by omega
               have hwn : IntKind.i64.wrap ((n : Int) - 1) = (n : Int) - 1 := IntWalk.i64_in _ ⟨by omega, by omega⟩
               have hrbw : rb < wr.heap.size := Nat.lt_of_lt_of_le hrb HG.b.size
               clear hpu hTA hPR hres
               have B0 : Below wr.heap.size wr wr.drew := (Below.refl _ _).drew
               refine wp_region_held_drew (S := (fun W => W.cell? ⟨w.heap.size + 1, 6, none⟩ = some (.slice (some ⟨lb, 0, none⟩) S.syms.length lc) /\ W.cell? ⟨lb, rs[k].h, none⟩ = some (.slice (some ⟨bs rs[k].h, 0, none⟩) (Z rs[k].h) (Z rs[k].h)) /\ W.cell? ⟨w.heap.size, 4, none⟩ = some (.slice (some ⟨rb, ro, none⟩) rs.length rc) /\ W.cell? ⟨rb, ro + k * 4 + 3, none⟩ = some (.slice aa rs[k].args.length ac))) (by kernel_rfl) ⟨c6, cl, g4, q3⟩ (fun hHeld0 => ?_)
               refine tkD (i := 0) (d := some 78) (v := ?_) rfl rfl (Or.inl ⟨by rfl, ?_⟩) (by assumption) ?_
               rotate_left
               · intro w hSw; (try dsimp only at hSw); (go_simp <;> with_reducible rfl)
               try simp only [Qa, Qb, Qc, Qd]
               refine tkD (i := 1) (d := some 79) (v := ?_) rfl rfl (Or.inl ⟨by rfl, ?_⟩) (by assumption) ?_
               rotate_left
               · intro w hSw; (try dsimp only at hSw); (go_simp <;> with_reducible rfl)
               try simp only [Qa, Qb, Qc, Qd]
               refine tkD (i := 2) (d := some 80) (v := ?_) rfl rfl (Or.inl ⟨by rfl, ?_⟩) (by assumption) ?_
               rotate_left
               · intro w hSw; (try dsimp only at hSw); (go_simp <;> with_reducible rfl)
               try simp only [Qa, Qb, Qc, Qd]
               refine tkD (i := 3) (d := some 81) (v := ?_) rfl rfl (Or.inl ⟨by rfl, ?_⟩) (by assumption) ?_
               rotate_left
               · intro w hSw; (try dsimp only at hSw); (go_simp <;> with_reducible rfl)
               try simp only [Qa, Qb, Qc, Qd]
               refine tkD (i := 4) (d := some 82) (v := ?_) rfl rfl (Or.inl ⟨by rfl, ?_⟩) (by assumption) ?_
               rotate_left
               · intro w hSw; (try dsimp only at hSw); (go_simp <;> with_reducible rfl)
               try simp only [Qa, Qb, Qc, Qd]
               refine tkD (i := 5) (d := some 83) (v := ?_) rfl rfl (Or.inl ⟨by rfl, ?_⟩) (by assumption) ?_
               rotate_left
               · intro w hSw; (try dsimp only at hSw); (go_simp <;> with_reducible rfl)
               try simp only [Qa, Qb, Qc, Qd]
               refine tkD (i := 6) (d := some 84) (v := ?_) rfl rfl (Or.inl ⟨by rfl, ?_⟩) (by assumption) ?_
               rotate_left
               · intro w hSw; (try dsimp only at hSw); (go_simp <;> with_reducible rfl)
               try simp only [Qa, Qb, Qc, Qd]
               refine tkD (i := 7) (d := some 85) (v := ?_) rfl rfl (Or.inl ⟨by rfl, ?_⟩) (by assumption) ?_
               rotate_left
               · intro w hSw; (try dsimp only at hSw); (go_simp <;> with_reducible rfl)
               try simp only [Qa, Qb, Qc, Qd]
               refine tkD (i := 8) (d := some 86) (v := ?_) rfl rfl (Or.inl ⟨by rfl, ?_⟩) (by assumption) ?_
               rotate_left
               · intro w hSw; (try dsimp only at hSw); (go_simp <;> with_reducible rfl)
               try simp only [Qa, Qb, Qc, Qd]
               refine tkD (i := 9) (d := some 87) (v := ?_) rfl rfl (Or.inl ⟨by rfl, ?_⟩) (by assumption) ?_
               rotate_left
               · intro w hSw; (try dsimp only at hSw); (go_simp <;> with_reducible rfl)
               try simp only [Qa, Qb, Qc, Qd]
               refine tkD (i := 10) (d := some 88) (v := ?_) rfl rfl (Or.inl ⟨by rfl, ?_⟩) (by assumption) ?_
               rotate_left
               · intro w hSw; (try dsimp only at hSw); (go_simp <;> with_reducible rfl)
               try simp only [Qa, Qb, Qc, Qd]
               refine tkD (i := 11) (d := some 89) (v := ?_) rfl rfl (Or.inl ⟨by rfl, ?_⟩) (by assumption) ?_
               rotate_left
               · intro w hSw; (try dsimp only at hSw); (go_simp <;> with_reducible rfl)
               try simp only [Qa, Qb, Qc, Qd]
               refine tkD (i := 12) (d := some 90) (v := ?_) rfl rfl (Or.inl ⟨by rfl, ?_⟩) (by assumption) ?_
               rotate_left
               · intro w hSw; (try dsimp only at hSw); (go_simp <;> with_reducible rfl)
               try simp only [Qa, Qb, Qc, Qd]
               refine tkD (i := 13) (d := some 91) (v := ?_) rfl rfl (Or.inl ⟨by rfl, ?_⟩) (by assumption) ?_
               rotate_left
               · intro w hSw; (try dsimp only at hSw); (go_simp <;> with_reducible rfl)
               try simp only [Qa, Qb, Qc, Qd]
               refine tkD (i := 14) (d := some 92) (v := ?_) rfl rfl (Or.inl ⟨by rfl, ?_⟩) (by assumption) ?_
               rotate_left
               · intro w hSw; (try dsimp only at hSw); (go_simp <;> with_reducible rfl)
               try simp only [Qa, Qb, Qc, Qd]
               refine tkD (i := 15) (d := some 93) (v := ?_) rfl rfl (Or.inl ⟨by rfl, ?_⟩) (by assumption) ?_
               rotate_left
               · intro w hSw; (try dsimp only at hSw); (go_simp <;> with_reducible rfl)
               try simp only [Qa, Qb, Qc, Qd]
               refine tkD (i := 16) (d := some 94) (v := ?_) rfl rfl (Or.inl ⟨by rfl, ?_⟩) (by assumption) ?_
               rotate_left
               · intro w hSw; (try dsimp only at hSw); (go_simp <;> with_reducible rfl)
               try simp only [Qa, Qb, Qc, Qd]
               refine tkD (i := 18) (d := some 96) (v := ?_) rfl rfl (Or.inl ⟨by rfl, ?_⟩) (by assumption) ?_
               rotate_left
               · intro w hSw; (try dsimp only at hSw); (go_simp <;> with_reducible rfl)
               try simp only [Qa, Qb, Qc, Qd]
               refine tkD (i := 19) (d := some 97) (v := ?_) rfl rfl (Or.inl ⟨by rfl, ?_⟩) (by assumption) ?_
               rotate_left
               · intro w hSw; (try dsimp only at hSw); (go_simp <;> with_reducible rfl)
               try simp only [Qa, Qb, Qc, Qd]
               refine tkD (i := 21) (d := some 99) (v := ?_) rfl rfl (Or.inl ⟨by rfl, ?_⟩) (by assumption) ?_
               rotate_left
               · intro w hSw; (try dsimp only at hSw); (go_simp <;> with_reducible rfl)
               try simp only [Qa, Qb, Qc, Qd]
               refine tkD (i := 22) (d := some 100) (v := ?_) rfl rfl (Or.inl ⟨by rfl, ?_⟩) (by assumption) ?_
               rotate_left
               · intro w hSw; (try dsimp only at hSw); (go_simp <;> with_reducible rfl)
               try simp only [Qa, Qb, Qc, Qd]
               refine tkD (i := 23) (d := some 101) (v := ?_) rfl rfl (Or.inl ⟨by rfl, ?_⟩) (by assumption) ?_
               rotate_left
               · intro w hSw; (try dsimp only at hSw); (go_simp <;> with_reducible rfl)
               try simp only [Qa, Qb, Qc, Qd]
               refine tkD (i := 24) (d := some 102) (v := ?_) rfl rfl (Or.inl ⟨by rfl, ?_⟩) (by assumption) ?_
               rotate_left
               · intro w hSw; (try dsimp only at hSw); (go_simp <;> with_reducible rfl)
               try simp only [Qa, Qb, Qc, Qd]
               refine tkD (i := 25) (d := some 103) (v := ?_) rfl rfl (Or.inl ⟨by rfl, ?_⟩) (by assumption) ?_
               rotate_left
               · intro w hSw; (try dsimp only at hSw); (go_simp <;> with_reducible rfl)
               try simp only [Qa, Qb, Qc, Qd]
               refine tkD (i := 26) (d := some 104) (v := ?_) rfl rfl (Or.inl ⟨by rfl, ?_⟩) (by assumption) ?_
               rotate_left
               · intro w hSw; (try dsimp only at hSw); (go_simp <;> with_reducible rfl)
               try simp only [Qa, Qb, Qc, Qd]
               refine tkD (i := 27) (d := some 105) (v := ?_) rfl rfl (Or.inl ⟨by rfl, ?_⟩) (by assumption) ?_
               rotate_left
               · intro w hSw; (try dsimp only at hSw); (go_simp <;> with_reducible rfl)
               try simp only [Qa, Qb, Qc, Qd]
               refine tkD (i := 28) (d := some 106) (v := ?_) rfl rfl (Or.inl ⟨by rfl, ?_⟩) (by assumption) ?_
               rotate_left
               · intro w hSw; (try dsimp only at hSw); (go_simp <;> with_reducible rfl)
               try simp only [Qa, Qb, Qc, Qd]
               refine wpAnyH_ready (rs := [17, 20]) (by kernel_rfl) (by simp) ?_
               refine AllReadyH.cons (o := _) rfl (fun K hK => ?_) (AllReadyH.cons (o := _) rfl (fun K hK => ?_) AllReadyH.nil)
               · go_simp
                 refine hK.out _ _ ?_ (fun hHeld => ?_)
                 · exact ⟨c6, cl, g4, q3⟩
                 clear hK K
                 try simp only [Qa, Qb, Qc, Qd]
                 refine wpAnyH_ready (rs := [20]) (by kernel_rfl) (by simp) ?_
                 refine AllReadyH.cons (o := _) rfl (fun K hK => ?_) AllReadyH.nil
                 go_simp
                 have B1 := B0.alloc (Nat.le_refl _) (.cells #[.int .i64 k] 3)
                 have HL1 : ListT (wr.drew.alloc (.cells #[.int .i64 k] 3)) (some ⟨wr.heap.size, 0, none⟩) [(k : Int)] := fun _ => ⟨wr.heap.size, 0, _, _, rfl, heapNew wr.drew _, fun i hi => by
                   have : i = 0 := by simp at hi; omega
                   subst this; rfl⟩
                 have ce1 : (wr.drew.alloc (.cells #[.int .i64 k] 3)).cell? ⟨bs rs[k].h, n, none⟩ = _ := (B1.cell lbs).trans ce
                 refine hK.out _ _ ?_ (fun hHeld => ?_)
                 · exact ⟨(B1.cell lbx).trans c6, (B1.cell hlbw).trans cl, (B1.cell lg).trans g4, (B1.cell hrbw).trans q3⟩
                 clear hK K
                 try simp only [Qa, Qb, Qc, Qd]
                 refine wpAnyH_ready (rs := [29]) (by kernel_rfl) (by simp) ?_
                 refine AllReadyH.cons (o := _) rfl (fun K hK => ?_) AllReadyH.nil
                 go_simp
                 go_at_call 45
                 refine (HJ.out _ B1 HL1).mono ?_
                 rintro e w7 ⟨⟨rva, rvc, rfl, hrp, hrn, hrc⟩, hb7⟩
                 have B7 := B1.trans (hb7.mono B1.size)
                 have ce7 : w7.cell? ⟨bs rs[k].h, n, none⟩ = _ := (B7.cell lbs).trans ce
                 refine hK.out _ _ ?_ (fun hHeld => ?_)
                 · exact ⟨(B7.cell lbx).trans c6, (B7.cell hlbw).trans cl, (B7.cell lg).trans g4, (B7.cell hrbw).trans q3⟩
                 clear hK K
                 try simp only [Qa, Qb, Qc, Qd]
                 refine wpAnyH_ready (rs := [30]) (by kernel_rfl) (by simp) ?_
                 refine AllReadyH.cons (o := _) rfl (fun K hK => ?_) AllReadyH.nil
                 have hT7 := hT.below B7
                 obtain ⟨ys, hys, hyp⟩ := hT7.ent rs[k].h n hh hc1
                 obtain ⟨zs, hzs, hv0⟩ := hrp.news (fun h => (hrn h).1)
                 have hv : (∃ ad, rva = some ad /\ ∀ (j : Nat) u, zs[j]? = some u -> w7.cell? (ad.add j) = some u) ∨ (rva = none /\ res.length = 0) := (by rcases hv0 with h | ⟨h1, h2⟩; exact .inl h; exact .inr ⟨h1, by rw [h2]; rfl⟩)
                 refine step_append_anyD (d := some 108) _ rfl rfl _ _ 61 rfl (w.heap.size + 2) 22 iP _ 1 24 Tryz.underlying61 hiP hp0 hp1 hp2 rfl (by decide) (E rs[k].h n) _ ys rfl hys rva res.length rvc zs rfl (by rw [hzs.len, Nat.mul_one]) hv hzs.one (by unfold maxLen; omega) (by omega) (Nat.le_trans hbase B7.size) ?_
                 intro v8 w8 hown8 hgrow8 hat8
                 obtain ⟨va8, vc8, rfl⟩ := own_slice hown8
                 obtain ⟨lb', lc', e', _, hlb7, ⟨arrl, harrl⟩, _⟩ := hT7.read hsn0
                 cases e'
                 have hB8 := fun (b : Nat) (cs : Array Value) (t : TypeId) (fr : Nat × Nat) (hb : w7.heap[b]? = some (Obj.cells cs t fr)) (ht : t ≠ 22) => show w8.heap[b]? = some (Obj.cells cs t fr) by
                   rw [hgrow8.block b (heap_lt' hb) (rowNe hys hb ht)]; exact hb
                 have hblk7 : w7.heap[bs rs[k].h]? = some (Obj.cells arrh 61 (0, 0)) := by rw [B7.block _ lbs]; exact hblk
                 have hblk8 := hB8 _ _ _ _ hblk7 (by decide)
                 have ce8 := cellOf hblk8 (hble n hc1)
                 have fr8 : w8.frozen? ⟨bs rs[k].h, n, none⟩ = false := by simp [World.frozen?, hblk8]
                 have HBX7 := HBX.below B7
                 have HG7 := HG.below B7
                 have hgx8 := hB8 _ _ _ _ HG7.g (by decide)
                 have hbx8 := hB8 _ _ _ _ HBX7 (by decide)
                 have hlx8 := hB8 _ _ _ _ harrl (by decide)
                 have c68 : w8.cell? ⟨w.heap.size + 1, 6, none⟩ = _ := cellOf hbx8 rfl
                 have g48 : w8.cell? ⟨w.heap.size, 4, none⟩ = _ := cellOf hgx8 rfl
                 have cl8 : w8.cell? ⟨lb, rs[k].h, none⟩ = _ := (hgrow8.cell_far ⟨lb, rs[k].h, none⟩ hlb7 (rowNe hys harrl (by decide))).trans ((B7.cell hlbw).trans cl)
                 have q38 : w8.cell? ⟨rb, ro + k * 4 + 3, none⟩ = _ := (hgrow8.cell_far ⟨rb, ro + k * 4 + 3, none⟩ (Nat.lt_of_lt_of_le hrbw B7.size) (row_ge hys (show rb < w.heap.size + 2 by omega))).trans ((B7.cell hrbw).trans q3)
                 have hlne : lb ≠ bs rs[k].h := fun e => by
                   rw [e] at hlx8; rw [hlx8] at hblk8; cases hblk8
                 refine hK.out _ _ ?_ (fun hHeld => ?_)
                 · exact ⟨c68, cl8, g48, q38⟩
                 clear hK K
                 try simp only [Qa, Qb, Qc, Qd]
                 refine tkD (i := 31) (d := some 109) (v := ?_) rfl rfl (Or.inl ⟨by rfl, ?_⟩) (by assumption) ?_
                 rotate_left
                 · intro w hSw; (try dsimp only at hSw); (go_simp <;> with_reducible rfl)
                 try simp only [Qa, Qb, Qc, Qd]
                 refine wpAnyH_ready (rs := [32]) (by kernel_rfl) (by simp) ?_
                 refine AllReadyH.cons (o := _) rfl (fun K hK => ?_) AllReadyH.nil
                 go_simp
                 refine hK.out _ _ ?_ (fun hHeld => ?_)
                 · exact ⟨(World.cell?_of_block (Below.heap_setCell _ _ _ _ (show w.heap.size + 1 ≠ bs rs[k].h by omega))).trans c68, (World.cell?_of_block (Below.heap_setCell _ _ _ _ hlne)).trans cl8, (World.cell?_of_block (Below.heap_setCell _ _ _ _ (show w.heap.size ≠ bs rs[k].h by omega))).trans g48, (World.cell?_of_block (Below.heap_setCell _ _ _ _ (show rb ≠ bs rs[k].h by omega))).trans q38⟩
                 clear hK K
                 try simp only [Qa, Qb, Qc, Qd]
                 refine wpAnyH_done (by kernel_rfl) ?_ _
                 have hT9 := (Tb.grown hT7 hh hc1 hys hyp hzs hown8 hgrow8 hat8).congr HPU.out
                 have HBX9 : BoxIs (w8.setCell ⟨bs rs[k].h, n, none⟩ (.slice va8 ((part rs Z f (n - 1) k rs[k].h n).length + res.length) vc8)) (w.heap.size + 1) 108 #[.string S.nm, .int .i64 S.ver, .slice ca S.cols.length cc, .slice (some ⟨sb, so, none⟩) S.syms.length sc, .slice (some ⟨rb, ro, none⟩) rs.length rc, .int .i64 S.st, .slice (some ⟨lb, 0, none⟩) S.syms.length lc] := by
                   unfold BoxIs; rw [Below.heap_setCell _ _ _ _ (show w.heap.size + 1 ≠ bs rs[k].h by omega)]; exact hbx8
                 have hbw8 : Below w.heap.size w w8 := HG7.b.grown hgrow8 HG7.b.size (fun g hg => by
                   rcases Nat.lt_or_ge g (w.heap.size + 2) with hl | hl
                   · exact absurd hg.symm (row_ge hys hl)
                   · omega)
                 have HG9 : GB w (gA S rs ca (some ⟨sb, so, none⟩) cc sc rb ro rc) (w8.setCell ⟨bs rs[k].h, n, none⟩ (.slice va8 ((part rs Z f (n - 1) k rs[k].h n).length + res.length) vc8)) := GB.set (wr := w8) ⟨hbw8, hgx8⟩ (by omega)
                 have hNR9 : NumRow (w8.setCell ⟨bs rs[k].h, n, none⟩ (.slice va8 ((part rs Z f (n - 1) k rs[k].h n).length + res.length) vc8)) nb S.syms.length f := ((hNR.kept (keptInts B7)).kept (keptGrown hys hgrow8)).kept (keepISet hblk8 (by decide))
                 have hbase9 : w.heap.size + 2 <= (w8.setCell ⟨bs rs[k].h, n, none⟩ (.slice va8 ((part rs Z f (n - 1) k rs[k].h n).length + res.length) vc8)).heap.size := by have := heap_lt' HBX9; omega
                 clear HG HBX hT hNR hT7 HG7 HBX7 hgx8 hbx8 hlx8 c68 g48 cl8 q38 ce8 fr8 hblk8 hblk7 hown8 hgrow8 hys hyp hzs hv hrp hB8 ce ce7 c6 cl g4 q3 cn hHeld hHeld0 hblk hble hat8
                 generalize (w8.setCell ⟨bs rs[k].h, n, none⟩ (.slice va8 ((part rs Z f (n - 1) k rs[k].h n).length + res.length) vc8)) = w9 at *
                 go_wp2
                 go_roundw
                 case rel => first | exact ⟨k + 1, _, by omega, by go_num, hbase9, HG9, HBX9, hNR9, hT9⟩ | ((repeat apply Exists.intro); refine ⟨?_, rfl⟩; exact ⟨k + 1, _, by omega, by go_num, hbase9, HG9, HBX9, hNR9, hT9⟩)
                 case measure => simp [intOf]; omega
               · go_simp
                 have B1 := B0.alloc (Nat.le_refl _) (.cells #[.int .i64 k] 3)
                 have HL1 : ListT (wr.drew.alloc (.cells #[.int .i64 k] 3)) (some ⟨wr.heap.size, 0, none⟩) [(k : Int)] := fun _ => ⟨wr.heap.size, 0, _, _, rfl, heapNew wr.drew _, fun i hi => by
                   have : i = 0 := by simp at hi; omega
                   subst this; rfl⟩
                 have ce1 : (wr.drew.alloc (.cells #[.int .i64 k] 3)).cell? ⟨bs rs[k].h, n, none⟩ = _ := (B1.cell lbs).trans ce
                 refine hK.out _ _ ?_ (fun hHeld => ?_)
                 · exact ⟨(B1.cell lbx).trans c6, (B1.cell hlbw).trans cl, (B1.cell lg).trans g4, (B1.cell hrbw).trans q3⟩
                 clear hK K
                 try simp only [Qa, Qb, Qc, Qd]
                 refine wpAnyH_ready (rs := [17, 29]) (by kernel_rfl) (by simp) ?_
                 refine AllReadyH.cons (o := _) rfl (fun K hK => ?_) (AllReadyH.cons (o := _) rfl (fun K hK => ?_) AllReadyH.nil)
                 · go_simp
                   refine hK.out _ _ ?_ (fun hHeld => ?_)
                   · exact ⟨(B1.cell lbx).trans c6, (B1.cell hlbw).trans cl, (B1.cell lg).trans g4, (B1.cell hrbw).trans q3⟩
                   clear hK K
                   try simp only [Qa, Qb, Qc, Qd]
                   refine wpAnyH_ready (rs := [29]) (by kernel_rfl) (by simp) ?_
                   refine AllReadyH.cons (o := _) rfl (fun K hK => ?_) AllReadyH.nil
                   go_simp
                   go_at_call 45
                   refine (HJ.out _ B1 HL1).mono ?_
                   rintro e w7 ⟨⟨rva, rvc, rfl, hrp, hrn, hrc⟩, hb7⟩
                   have B7 := B1.trans (hb7.mono B1.size)
                   have ce7 : w7.cell? ⟨bs rs[k].h, n, none⟩ = _ := (B7.cell lbs).trans ce
                   refine hK.out _ _ ?_ (fun hHeld => ?_)
                   · exact ⟨(B7.cell lbx).trans c6, (B7.cell hlbw).trans cl, (B7.cell lg).trans g4, (B7.cell hrbw).trans q3⟩
                   clear hK K
                   try simp only [Qa, Qb, Qc, Qd]
                   refine wpAnyH_ready (rs := [30]) (by kernel_rfl) (by simp) ?_
                   refine AllReadyH.cons (o := _) rfl (fun K hK => ?_) AllReadyH.nil
                   have hT7 := hT.below B7
                   obtain ⟨ys, hys, hyp⟩ := hT7.ent rs[k].h n hh hc1
                   obtain ⟨zs, hzs, hv0⟩ := hrp.news (fun h => (hrn h).1)
                   have hv : (∃ ad, rva = some ad /\ ∀ (j : Nat) u, zs[j]? = some u -> w7.cell? (ad.add j) = some u) ∨ (rva = none /\ res.length = 0) := (by rcases hv0 with h | ⟨h1, h2⟩; exact .inl h; exact .inr ⟨h1, by rw [h2]; rfl⟩)
                   refine step_append_anyD (d := some 108) _ rfl rfl _ _ 61 rfl (w.heap.size + 2) 22 iP _ 1 24 Tryz.underlying61 hiP hp0 hp1 hp2 rfl (by decide) (E rs[k].h n) _ ys rfl hys rva res.length rvc zs rfl (by rw [hzs.len, Nat.mul_one]) hv hzs.one (by unfold maxLen; omega) (by omega) (Nat.le_trans hbase B7.size) ?_
                   intro v8 w8 hown8 hgrow8 hat8
                   obtain ⟨va8, vc8, rfl⟩ := own_slice hown8
                   obtain ⟨lb', lc', e', _, hlb7, ⟨arrl, harrl⟩, _⟩ := hT7.read hsn0
                   cases e'
                   have hB8 := fun (b : Nat) (cs : Array Value) (t : TypeId) (fr : Nat × Nat) (hb : w7.heap[b]? = some (Obj.cells cs t fr)) (ht : t ≠ 22) => show w8.heap[b]? = some (Obj.cells cs t fr) by
                     rw [hgrow8.block b (heap_lt' hb) (rowNe hys hb ht)]; exact hb
                   have hblk7 : w7.heap[bs rs[k].h]? = some (Obj.cells arrh 61 (0, 0)) := by rw [B7.block _ lbs]; exact hblk
                   have hblk8 := hB8 _ _ _ _ hblk7 (by decide)
                   have ce8 := cellOf hblk8 (hble n hc1)
                   have fr8 : w8.frozen? ⟨bs rs[k].h, n, none⟩ = false := by simp [World.frozen?, hblk8]
                   have HBX7 := HBX.below B7
                   have HG7 := HG.below B7
                   have hgx8 := hB8 _ _ _ _ HG7.g (by decide)
                   have hbx8 := hB8 _ _ _ _ HBX7 (by decide)
                   have hlx8 := hB8 _ _ _ _ harrl (by decide)
                   have c68 : w8.cell? ⟨w.heap.size + 1, 6, none⟩ = _ := cellOf hbx8 rfl
                   have g48 : w8.cell? ⟨w.heap.size, 4, none⟩ = _ := cellOf hgx8 rfl
                   have cl8 : w8.cell? ⟨lb, rs[k].h, none⟩ = _ := (hgrow8.cell_far ⟨lb, rs[k].h, none⟩ hlb7 (rowNe hys harrl (by decide))).trans ((B7.cell hlbw).trans cl)
                   have q38 : w8.cell? ⟨rb, ro + k * 4 + 3, none⟩ = _ := (hgrow8.cell_far ⟨rb, ro + k * 4 + 3, none⟩ (Nat.lt_of_lt_of_le hrbw B7.size) (row_ge hys (show rb < w.heap.size + 2 by omega))).trans ((B7.cell hrbw).trans q3)
                   have hlne : lb ≠ bs rs[k].h := fun e => by
                     rw [e] at hlx8; rw [hlx8] at hblk8; cases hblk8
                   refine hK.out _ _ ?_ (fun hHeld => ?_)
                   · exact ⟨c68, cl8, g48, q38⟩
                   clear hK K
                   try simp only [Qa, Qb, Qc, Qd]
                   refine tkD (i := 31) (d := some 109) (v := ?_) rfl rfl (Or.inl ⟨by rfl, ?_⟩) (by assumption) ?_
                   rotate_left
                   · intro w hSw; (try dsimp only at hSw); (go_simp <;> with_reducible rfl)
                   try simp only [Qa, Qb, Qc, Qd]
                   refine wpAnyH_ready (rs := [32]) (by kernel_rfl) (by simp) ?_
                   refine AllReadyH.cons (o := _) rfl (fun K hK => ?_) AllReadyH.nil
                   go_simp
                   refine hK.out _ _ ?_ (fun hHeld => ?_)
                   · exact ⟨(World.cell?_of_block (Below.heap_setCell _ _ _ _ (show w.heap.size + 1 ≠ bs rs[k].h by omega))).trans c68, (World.cell?_of_block (Below.heap_setCell _ _ _ _ hlne)).trans cl8, (World.cell?_of_block (Below.heap_setCell _ _ _ _ (show w.heap.size ≠ bs rs[k].h by omega))).trans g48, (World.cell?_of_block (Below.heap_setCell _ _ _ _ (show rb ≠ bs rs[k].h by omega))).trans q38⟩
                   clear hK K
                   try simp only [Qa, Qb, Qc, Qd]
                   refine wpAnyH_done (by kernel_rfl) ?_ _
                   have hT9 := (Tb.grown hT7 hh hc1 hys hyp hzs hown8 hgrow8 hat8).congr HPU.out
                   have HBX9 : BoxIs (w8.setCell ⟨bs rs[k].h, n, none⟩ (.slice va8 ((part rs Z f (n - 1) k rs[k].h n).length + res.length) vc8)) (w.heap.size + 1) 108 #[.string S.nm, .int .i64 S.ver, .slice ca S.cols.length cc, .slice (some ⟨sb, so, none⟩) S.syms.length sc, .slice (some ⟨rb, ro, none⟩) rs.length rc, .int .i64 S.st, .slice (some ⟨lb, 0, none⟩) S.syms.length lc] := by
                     unfold BoxIs; rw [Below.heap_setCell _ _ _ _ (show w.heap.size + 1 ≠ bs rs[k].h by omega)]; exact hbx8
                   have hbw8 : Below w.heap.size w w8 := HG7.b.grown hgrow8 HG7.b.size (fun g hg => by
                     rcases Nat.lt_or_ge g (w.heap.size + 2) with hl | hl
                     · exact absurd hg.symm (row_ge hys hl)
                     · omega)
                   have HG9 : GB w (gA S rs ca (some ⟨sb, so, none⟩) cc sc rb ro rc) (w8.setCell ⟨bs rs[k].h, n, none⟩ (.slice va8 ((part rs Z f (n - 1) k rs[k].h n).length + res.length) vc8)) := GB.set (wr := w8) ⟨hbw8, hgx8⟩ (by omega)
                   have hNR9 : NumRow (w8.setCell ⟨bs rs[k].h, n, none⟩ (.slice va8 ((part rs Z f (n - 1) k rs[k].h n).length + res.length) vc8)) nb S.syms.length f := ((hNR.kept (keptInts B7)).kept (keptGrown hys hgrow8)).kept (keepISet hblk8 (by decide))
                   have hbase9 : w.heap.size + 2 <= (w8.setCell ⟨bs rs[k].h, n, none⟩ (.slice va8 ((part rs Z f (n - 1) k rs[k].h n).length + res.length) vc8)).heap.size := by have := heap_lt' HBX9; omega
                   clear HG HBX hT hNR hT7 HG7 HBX7 hgx8 hbx8 hlx8 c68 g48 cl8 q38 ce8 fr8 hblk8 hblk7 hown8 hgrow8 hys hyp hzs hv hrp hB8 ce ce7 c6 cl g4 q3 cn hHeld hHeld0 hblk hble hat8
                   generalize (w8.setCell ⟨bs rs[k].h, n, none⟩ (.slice va8 ((part rs Z f (n - 1) k rs[k].h n).length + res.length) vc8)) = w9 at *
                   go_wp2
                   go_roundw
                   case rel => first | exact ⟨k + 1, _, by omega, by go_num, hbase9, HG9, HBX9, hNR9, hT9⟩ | ((repeat apply Exists.intro); refine ⟨?_, rfl⟩; exact ⟨k + 1, _, by omega, by go_num, hbase9, HG9, HBX9, hNR9, hT9⟩)
                   case measure => simp [intOf]; omega
                 · go_simp
                   go_at_call 45
                   refine (HJ.out _ B1 HL1).mono ?_
                   rintro e w7 ⟨⟨rva, rvc, rfl, hrp, hrn, hrc⟩, hb7⟩
                   have B7 := B1.trans (hb7.mono B1.size)
                   have ce7 : w7.cell? ⟨bs rs[k].h, n, none⟩ = _ := (B7.cell lbs).trans ce
                   refine hK.out _ _ ?_ (fun hHeld => ?_)
                   · exact ⟨(B7.cell lbx).trans c6, (B7.cell hlbw).trans cl, (B7.cell lg).trans g4, (B7.cell hrbw).trans q3⟩
                   clear hK K
                   try simp only [Qa, Qb, Qc, Qd]
                   refine wpAnyH_ready (rs := [17]) (by kernel_rfl) (by simp) ?_
                   refine AllReadyH.cons (o := _) rfl (fun K hK => ?_) AllReadyH.nil
                   go_simp
                   refine hK.out _ _ ?_ (fun hHeld => ?_)
                   · exact ⟨(B7.cell lbx).trans c6, (B7.cell hlbw).trans cl, (B7.cell lg).trans g4, (B7.cell hrbw).trans q3⟩
                   clear hK K
                   try simp only [Qa, Qb, Qc, Qd]
                   refine wpAnyH_ready (rs := [30]) (by kernel_rfl) (by simp) ?_
                   refine AllReadyH.cons (o := _) rfl (fun K hK => ?_) AllReadyH.nil
                   have hT7 := hT.below B7
                   obtain ⟨ys, hys, hyp⟩ := hT7.ent rs[k].h n hh hc1
                   obtain ⟨zs, hzs, hv0⟩ := hrp.news (fun h => (hrn h).1)
                   have hv : (∃ ad, rva = some ad /\ ∀ (j : Nat) u, zs[j]? = some u -> w7.cell? (ad.add j) = some u) ∨ (rva = none /\ res.length = 0) := (by rcases hv0 with h | ⟨h1, h2⟩; exact .inl h; exact .inr ⟨h1, by rw [h2]; rfl⟩)
                   refine step_append_anyD (d := some 108) _ rfl rfl _ _ 61 rfl (w.heap.size + 2) 22 iP _ 1 24 Tryz.underlying61 hiP hp0 hp1 hp2 rfl (by decide) (E rs[k].h n) _ ys rfl hys rva res.length rvc zs rfl (by rw [hzs.len, Nat.mul_one]) hv hzs.one (by unfold maxLen; omega) (by omega) (Nat.le_trans hbase B7.size) ?_
                   intro v8 w8 hown8 hgrow8 hat8
                   obtain ⟨va8, vc8, rfl⟩ := own_slice hown8
                   obtain ⟨lb', lc', e', _, hlb7, ⟨arrl, harrl⟩, _⟩ := hT7.read hsn0
                   cases e'
                   have hB8 := fun (b : Nat) (cs : Array Value) (t : TypeId) (fr : Nat × Nat) (hb : w7.heap[b]? = some (Obj.cells cs t fr)) (ht : t ≠ 22) => show w8.heap[b]? = some (Obj.cells cs t fr) by
                     rw [hgrow8.block b (heap_lt' hb) (rowNe hys hb ht)]; exact hb
                   have hblk7 : w7.heap[bs rs[k].h]? = some (Obj.cells arrh 61 (0, 0)) := by rw [B7.block _ lbs]; exact hblk
                   have hblk8 := hB8 _ _ _ _ hblk7 (by decide)
                   have ce8 := cellOf hblk8 (hble n hc1)
                   have fr8 : w8.frozen? ⟨bs rs[k].h, n, none⟩ = false := by simp [World.frozen?, hblk8]
                   have HBX7 := HBX.below B7
                   have HG7 := HG.below B7
                   have hgx8 := hB8 _ _ _ _ HG7.g (by decide)
                   have hbx8 := hB8 _ _ _ _ HBX7 (by decide)
                   have hlx8 := hB8 _ _ _ _ harrl (by decide)
                   have c68 : w8.cell? ⟨w.heap.size + 1, 6, none⟩ = _ := cellOf hbx8 rfl
                   have g48 : w8.cell? ⟨w.heap.size, 4, none⟩ = _ := cellOf hgx8 rfl
                   have cl8 : w8.cell? ⟨lb, rs[k].h, none⟩ = _ := (hgrow8.cell_far ⟨lb, rs[k].h, none⟩ hlb7 (rowNe hys harrl (by decide))).trans ((B7.cell hlbw).trans cl)
                   have q38 : w8.cell? ⟨rb, ro + k * 4 + 3, none⟩ = _ := (hgrow8.cell_far ⟨rb, ro + k * 4 + 3, none⟩ (Nat.lt_of_lt_of_le hrbw B7.size) (row_ge hys (show rb < w.heap.size + 2 by omega))).trans ((B7.cell hrbw).trans q3)
                   have hlne : lb ≠ bs rs[k].h := fun e => by
                     rw [e] at hlx8; rw [hlx8] at hblk8; cases hblk8
                   refine hK.out _ _ ?_ (fun hHeld => ?_)
                   · exact ⟨c68, cl8, g48, q38⟩
                   clear hK K
                   try simp only [Qa, Qb, Qc, Qd]
                   refine tkD (i := 31) (d := some 109) (v := ?_) rfl rfl (Or.inl ⟨by rfl, ?_⟩) (by assumption) ?_
                   rotate_left
                   · intro w hSw; (try dsimp only at hSw); (go_simp <;> with_reducible rfl)
                   try simp only [Qa, Qb, Qc, Qd]
                   refine wpAnyH_ready (rs := [32]) (by kernel_rfl) (by simp) ?_
                   refine AllReadyH.cons (o := _) rfl (fun K hK => ?_) AllReadyH.nil
                   go_simp
                   refine hK.out _ _ ?_ (fun hHeld => ?_)
                   · exact ⟨(World.cell?_of_block (Below.heap_setCell _ _ _ _ (show w.heap.size + 1 ≠ bs rs[k].h by omega))).trans c68, (World.cell?_of_block (Below.heap_setCell _ _ _ _ hlne)).trans cl8, (World.cell?_of_block (Below.heap_setCell _ _ _ _ (show w.heap.size ≠ bs rs[k].h by omega))).trans g48, (World.cell?_of_block (Below.heap_setCell _ _ _ _ (show rb ≠ bs rs[k].h by omega))).trans q38⟩
                   clear hK K
                   try simp only [Qa, Qb, Qc, Qd]
                   refine wpAnyH_done (by kernel_rfl) ?_ _
                   have hT9 := (Tb.grown hT7 hh hc1 hys hyp hzs hown8 hgrow8 hat8).congr HPU.out
                   have HBX9 : BoxIs (w8.setCell ⟨bs rs[k].h, n, none⟩ (.slice va8 ((part rs Z f (n - 1) k rs[k].h n).length + res.length) vc8)) (w.heap.size + 1) 108 #[.string S.nm, .int .i64 S.ver, .slice ca S.cols.length cc, .slice (some ⟨sb, so, none⟩) S.syms.length sc, .slice (some ⟨rb, ro, none⟩) rs.length rc, .int .i64 S.st, .slice (some ⟨lb, 0, none⟩) S.syms.length lc] := by
                     unfold BoxIs; rw [Below.heap_setCell _ _ _ _ (show w.heap.size + 1 ≠ bs rs[k].h by omega)]; exact hbx8
                   have hbw8 : Below w.heap.size w w8 := HG7.b.grown hgrow8 HG7.b.size (fun g hg => by
                     rcases Nat.lt_or_ge g (w.heap.size + 2) with hl | hl
                     · exact absurd hg.symm (row_ge hys hl)
                     · omega)
                   have HG9 : GB w (gA S rs ca (some ⟨sb, so, none⟩) cc sc rb ro rc) (w8.setCell ⟨bs rs[k].h, n, none⟩ (.slice va8 ((part rs Z f (n - 1) k rs[k].h n).length + res.length) vc8)) := GB.set (wr := w8) ⟨hbw8, hgx8⟩ (by omega)
                   have hNR9 : NumRow (w8.setCell ⟨bs rs[k].h, n, none⟩ (.slice va8 ((part rs Z f (n - 1) k rs[k].h n).length + res.length) vc8)) nb S.syms.length f := ((hNR.kept (keptInts B7)).kept (keptGrown hys hgrow8)).kept (keepISet hblk8 (by decide))
                   have hbase9 : w.heap.size + 2 <= (w8.setCell ⟨bs rs[k].h, n, none⟩ (.slice va8 ((part rs Z f (n - 1) k rs[k].h n).length + res.length) vc8)).heap.size := by have := heap_lt' HBX9; omega
                   clear HG HBX hT hNR hT7 HG7 HBX7 hgx8 hbx8 hlx8 c68 g48 cl8 q38 ce8 fr8 hblk8 hblk7 hown8 hgrow8 hys hyp hzs hv hrp hB8 ce ce7 c6 cl g4 q3 cn hHeld hHeld0 hblk hble hat8
                   generalize (w8.setCell ⟨bs rs[k].h, n, none⟩ (.slice va8 ((part rs Z f (n - 1) k rs[k].h n).length + res.length) vc8)) = w9 at *
                   go_wp2
                   go_roundw
                   case rel => first | exact ⟨k + 1, _, by omega, by go_num, hbase9, HG9, HBX9, hNR9, hT9⟩ | ((repeat apply Exists.intro); refine ⟨?_, rfl⟩; exact ⟨k + 1, _, by omega, by go_num, hbase9, HG9, HBX9, hNR9, hT9⟩)
                   case measure => simp [intOf]; omega
             · have hT' : Tb (w.heap.size + 2) wr (.slice (some ⟨lb, 0, none⟩) S.syms.length lc) S.syms.length Z bs E (part rs Z f (n - 1) (k + 1)) := hT.congr (part_same rs Z f (n - 1) k hlt (by rw [show n - 1 + 1 = n by omega]; exact hc))
               by_cases hc1 : n < Z rs[k].h
               · have e1 : (n : Int) < (Z rs[k].h : Int) := by omega
                 have e2 : ¬ (n : Int) <= (f rs[k].h : Int) := by omega
                 have e3 : decide ((n : Int) <= (f rs[k].h : Int)) = false := by simp; omega
                 have e4 : ¬ n <= f rs[k].h := by omega
                 clear hT
                 go_wp2
                 go_roundw
                 case rel => first | exact ⟨k + 1, E, by omega, by go_num, hbase, HG, HBX, hNR, hT'⟩ | ((repeat apply Exists.intro); refine ⟨?_, rfl⟩; exact ⟨k + 1, E, by omega, by go_num, hbase, HG, HBX, hNR, hT'⟩)
                 case measure => simp [intOf]; omega
               · have e1 : ¬ (n : Int) < (Z rs[k].h : Int) := by omega
                 clear hT
                 go_wp2
                 go_roundw
                 case rel => first | exact ⟨k + 1, E, by omega, by go_num, hbase, HG, HBX, hNR, hT'⟩ | ((repeat apply Exists.intro); refine ⟨?_, rfl⟩; exact ⟨k + 1, E, by omega, by go_num, hbase, HG, HBX, hNR, hT'⟩)
                 case measure => simp [intOf]; omega
           · obtain rfl : k = rs.length := by omega
             have hT' : Tb (w.heap.size + 2) wr (.slice (some ⟨lb, 0, none⟩) S.syms.length lc) S.syms.length Z bs E (tab rs Z f (n + 1 - 1)) := hT.congr fun s i => by
               rw [part_end rs Z f (n - 1) s i, show n - 1 + 1 = n + 1 - 1 by omega]
             clear hT
             go_wp2
             go_roundw
             case rel => first | exact ⟨n + 1, E, by omega, by omega, by go_num, hbase, HG, HBX, hNR, hT'⟩ | ((repeat apply Exists.intro); refine ⟨?_, rfl⟩; exact ⟨n + 1, E, by omega, by omega, by go_num, hbase, HG, HBX, hNR, hT'⟩)
             case measure => simp [intOf]; omega
       · obtain rfl : n = m + 1 := by omega
         rw [Nat.add_sub_cancel] at hT
         have j0 : ¬ ((m + 1 : Nat) : Int) <= (m : Int) := by omega
         have c6 := cellOf (i := 6) HBX rfl
         have lbx := heap_lt' HBX
         have HTV := Lib.hid (hT.tabV hsn0)
         clear hT
         go_wp2
         go_ret
         rw [HZ.out] at HTV
         exact ⟨⟨_, f, rfl, HTV.out, hNO⟩, HG.b⟩
end
end Go.EvPart
