/- ItemPartials, one part of the proof: PartS6. -/
import Derived.Test.YtljoobbnhbaklaaGreatDoorP29
import Derived.Test.YtljoobbnhbaklaaGreatDoorP32
set_option linter.all false
set_option maxRecDepth 100000
set_option maxHeartbeats 16000000
namespace Go.EvPart
open Go Go.Proofs Go.RowKit Go.EvNil
theorem IsPr.kept {T : List Int -> Prop} {w w' : World} {v : Value} (h : IsPr T w v) (hk : KeepI w w') : IsPr T w' v := by
 obtain ⟨qa, qc, q, e, h1, h2⟩ := h
 exact ⟨qa, qc, q, e, h1.kept hk, h2⟩
theorem IsPr.one {T : List Int -> Prop} {w : World} {v : Value} (h : IsPr T w v) : v.oneCell' = true := by
 obtain ⟨qa, qc, q, rfl, _⟩ := h; rfl
theorem Progs.news {T : List Int -> Prop} {w : World} {va : Option Addr} {n : Nat} (h : Progs T w va n) : ∃ zs : List Value, zs.length = n /\ (∀ y ∈ zs, IsPr T w y) /\ ((∃ ad, va = some ad /\ ∀ (j : Nat) u, zs[j]? = some u -> w.cell? (ad.add j) = some u) ∨ (va = none /\ n = 0)) := by
 by_cases h0 : 0 < n
 · obtain ⟨b, o, e, hl, hc⟩ := h h0
   have key : ∀ i, i < n -> w.cell? ⟨b, o + i, none⟩ = some ((w.cell? ⟨b, o + i, none⟩).getD undef) /\ IsPr T w ((w.cell? ⟨b, o + i, none⟩).getD undef) := fun i hi => by
     obtain ⟨v, h1, h2⟩ := hc i hi
     rw [h1]; exact ⟨rfl, h2⟩
   refine ⟨(List.range n).map fun i => (w.cell? ⟨b, o + i, none⟩).getD undef, by simp, fun y hy => ?_, .inl ⟨_, e, fun j u hu => ?_⟩⟩
   · obtain ⟨i, hi, rfl⟩ := List.mem_map.1 hy
     exact (key i (List.mem_range.1 hi)).2
   · rw [List.getElem?_map] at hu
     obtain ⟨i, hi, rfl⟩ := Option.map_eq_some_iff.1 hu
     obtain ⟨hlt, rfl⟩ := List.getElem?_eq_some_iff.1 hi
     rw [List.length_range] at hlt
     rw [List.getElem_range]
     have hadd : (⟨b, o, none⟩ : Addr).add j = ⟨b, o + j, none⟩ := by
       unfold Addr.add
       split
       · rename_i e0; subst e0; rfl
       · rfl
     rw [hadd]; exact (key j hlt).1
 · obtain rfl : n = 0 := by omega
   refine ⟨[], rfl, fun y hy => (by cases hy), ?_⟩
   cases va with
   | none => exact .inr ⟨rfl, rfl⟩
   | some ad => exact .inl ⟨ad, rfl, fun j u hu => by simp at hu⟩
theorem starts_tab {rs : List Rl} {M : Nat -> Nat} {st : Nat} (hM : ∀ i, 1 <= M i /\ M i <= 5) (hS : Starts rs M st) : ∃ d, 1 <= d /\ d <= M st /\ ∀ need, NeedOk M rs st rs.length need -> tab rs (fun s => min (M s) d + 1) need d st d ≠ [] := by
 rcases hS with ⟨k, hk, hs, ha⟩ | ⟨h2, a, k, j, hk, hj, hs, ha, hjs, hja⟩
 · have h1 := hM st
   exact ⟨1, Nat.le_refl _, h1.1, fun need hn => tab_leaf hk hs ha (by omega) (by have := hn.lo; omega) 1 (Nat.le_refl _)⟩
 · have h1 := hM a
   exact ⟨2, by omega, h2, fun need hn => tab_over hk hs ha hj hjs hja (by omega) (by have := hn.lo; omega) (by omega) (hn.un k hk hk hs h2 a ha)⟩
theorem row_list2 {w : World} {base : Nat} {v : Value} {n : Nat} {l : List Int} (h : w.ownsRow base 3 1 v n (valI l)) (hl : l.length = n) (h0 : v ≠ .slice none 0 0) : ∃ g cap, v = .slice (some ⟨g, 0, none⟩) l.length cap /\ ListAt w (some ⟨g, 0, none⟩) l /\ l.length <= cap /\ cap <= 9223372036854775807 := by
 obtain ⟨g, cap, e1, h1, h2⟩ := row_list h hl h0
 refine ⟨g, cap, e1, h1, h2, ?_⟩
 rcases h.2 with ⟨e2, _⟩ | ⟨g', cap', cur, e2, _, _, _, e3, _⟩
 · rw [e2] at e1; cases e1
 · rw [e2] at e1; cases e1; exact e3
theorem own_ne {w : World} {base : Nat} {e : TypeId} {size : Nat} {v : Value} {n : Nat} {xs : List Value} (h : w.ownsRow base e size v n xs) (hn : 0 < n) : v ≠ .slice none 0 0 := fun e => by
 rcases h.2 with ⟨_, h0⟩ | ⟨_, _, _, e1, _⟩
 · omega
 · rw [e] at e1; cases e1
section
variable {S : Sample} {M : Nat -> Nat} {rs : List Rl} {ca sa : Option Addr} {cc sc rb ro rc : Nat} {w : World}
def RetPick (rs : List Rl) (M : Nat -> Nat) (st : Nat) (e : Ending) (w' : World) : Prop := ∃ va vc n p, e = .returned (.slice va (p : List Int).length vc) /\ ListAt w' va p /\ Prg rs M st n p /\ p.length <= vc /\ vc <= 9223372036854775807
attribute [local irreducible] wpStill wpAnyH in
theorem pick_any (h : Gr S M rs ca sa cc sc rb ro rc w) (hcap : CapAt w rb ro rs) (h9 : rs.length <= 9) (hS : Starts rs M S.st) (x0 : Int) :
   Calls Tryz.prog 6 #[.agg (gA S rs ca sa cc sc rb ro rc), .int .i64 x0] w fun e w' => RetPick rs M S.st e w' /\ Below w.heap.size w w' := by
 have HX := GB.new w (gA S rs ca sa cc sc rb ro rc)
 have HZS := Lib.hid (fun W (hW : Below w.heap.size w W) (z : Nat) (h1 : 1 <= z) (h5 : z <= 5) => sized_any (h.below hW) (hcap.below hW) h9 z h1 h5)
 obtain ⟨d, hd1, hdM, hne⟩ := starts_tab h.lim hS
 have HNE := Lib.hid hne
 have hsn0 := h.ok.syms0
 have hsn := h.ok.syms
 have hst := h.ok.st
 have HM := Lib.hid h.lim
 have hM0 := h.lim S.st
 obtain ⟨sb, so, hse, hsb, hsc⟩ := h.y
 have HY := Lib.hid (fun W (hW : Below w.heap.size w W) i (hi : i < S.syms.length) => (hW.cell (p := ⟨sb, so + i * 3 + 2, none⟩) hsb).trans (hsc i hi).2.2)
 subst hse
 have g3 := cellOf (i := 3) HX.g rfl
 have g5 := cellOf (i := 5) HX.g rfl
 have cm := HY.out _ HX.b _ hst
 have i1 : (0 : Int) <= (S.st : Int) := by omega
 have i2 : (S.st : Int) < (S.syms.length : Int) := by omega
 obtain ⟨iP, hiP, hp0, hp1, hp2⟩ := info_parts infoP
 clear h hcap hS hne hsc
 go_enter Tryz.func6, Tryz.ntmps6
 go_wp2
 have hbase0 : w.heap.size + 1 <= (w.alloc (.cells (gA S rs ca (some ⟨sb, so, none⟩) cc sc rb ro rc) 29)).heap.size := by simp
 go_loopw [6, 7] (fun v i wr => ∃ (z len : Nat) (ys : List Value), 1 <= z /\ z <= M S.st + 1 /\ i = .int .i64 z /\ w.heap.size + 1 <= wr.heap.size /\ GB w (gA S rs ca (some ⟨sb, so, none⟩) cc sc rb ro rc) wr /\ Hid (wr.ownsRow (w.heap.size + 1) 22 1 v len ys) /\ Hid (∀ y ∈ ys, IsPr (fun p => ∃ n, Prg rs M S.st n p) wr y) /\ len < 400 /\ (d < z -> 0 < len)) (fun _ i _ => M S.st + 1 - (intOf i).toNat)
 case atStart => exact ⟨1, 0, [], by omega, by omega, rfl, hbase0, HX, Lib.hid (World.ownsRow_nil _ _ _ _), Lib.hid (fun y hy => by cases hy), by omega, fun h => by omega⟩
 case round =>
   clear HX hbase0 g3 g5 cm
   obtain ⟨z, len, ys, hz1, hzM, rfl, hbase, HG, HRow, HYS, hl4, hdl⟩ := hrel
   by_cases hle : z <= M S.st
   · have j0 : (z : Int) <= (M S.st : Int) := by omega
     have g0 := cellOf (i := 0) HG.g rfl
     have g1 := cellOf (i := 1) HG.g rfl
     have g2 := cellOf (i := 2) HG.g rfl
     have g3 := cellOf (i := 3) HG.g rfl
     have g4 := cellOf (i := 4) HG.g rfl
     have g5 := cellOf (i := 5) HG.g rfl
     have HSZ := Lib.hid (HZS.out _ HG.b z hz1 (by omega))
     go_upto_region 7 with (go_at_call 18; refine HSZ.out.mono ?_; rintro e w2 ⟨⟨vt, need, rfl, hTV, hNO⟩, hb2⟩)
     have HG2 := HG.below hb2
     have HRow2 := Lib.hid (ownsRow_below'' HRow.out hb2)
     have HYS2 := Lib.hid (fun y hy => (HYS.out y hy).below hb2)
     have hbase2 := Nat.le_trans hbase hb2.size
     clear HG HRow HYS hbase hb2 g0 g1 g2 g3 g4 g5 HSZ
     obtain ⟨lb, lc, bs, rfl, hlb, ⟨arl, fzl, harl⟩, hTD⟩ := hTV
     obtain ⟨hbs, ⟨arb, fzb, harb⟩, cl, hTE⟩ := hTD S.st hst
     try dsimp only at cl hTE
     obtain ⟨va, vc, cv, hP, hlv⟩ := hTE z (by omega)
     rw [show min (M S.st) z + 1 = z + 1 by omega] at cl
     have htl := tab_len (rs := rs) (Z := fun s => min (M s) z + 1) (need := need) h9 z (by omega) S.st z
     have htp : ∀ q ∈ tab rs (fun s => min (M s) z + 1) need z S.st z, ∃ n, Prg rs M S.st n q := fun q hq => ⟨z, tab_prg (M := M) (fun s => by omega) z S.st z q hq⟩
     have hnz : d = z -> 0 < (tab rs (fun s => min (M s) z + 1) need z S.st z).length := fun e => by
       subst e; exact List.length_pos_iff.2 (HNE.out need hNO)
     obtain ⟨L, hL⟩ : ∃ L, tab rs (fun s => min (M s) z + 1) need z S.st z = L := ⟨_, rfl⟩
     rw [hL] at cv hP hlv htl htp hnz
     obtain ⟨nL, hnL⟩ : ∃ nL, L.length = nL := ⟨_, rfl⟩
     have hPP := hP.progs htp
     rw [hnL] at cv hlv htl hnz hPP
     have hnL5 : nL <= 61917364224 := Nat.le_trans htl (Nat.pow_le_pow_right (by omega) (by omega : z <= 5))
     have HSO := Lib.hid (fun W (hW : Below w2.heap.size w2 W) => sorted_any (fun p => ∃ n, Prg rs M S.st n p) (fun p hp => by
       obtain ⟨n, hn⟩ := hp
       have h1 := hn.len
       have h2 := hn.le
       have h3 := (HM.out S.st).2
       omega) nL nL va vc W (Nat.le_refl _) (by omega) hlv (hPP.below hW))
     have HNZ := Lib.hid hnz
     clear hTD hTE hP htl htp hL hnL hPP hNO hnz
     have g5 := cellOf (i := 5) HG2.g rfl
     have lg := heap_lt' HG2.g
     have z1 : (z : Int) <= 5 := by omega
     have hwz : IntKind.i64.wrap (z : Int) = (z : Int) := IntWalk.i64_in _ ⟨by omega, by omega⟩
     have z3 : (z : Int) < (z : Int) + 1 := by omega
     have hmz : min (z : Int) (z : Int) = (z : Int) := by omega
     have z2 : (1 : Int) <= (z : Int) := by omega
     have B0 : Below w2.heap.size w2 w2.drew := (Below.refl _ _).drew
     refine wp_region_held_drew (S := (fun W => W.cell? ⟨w.heap.size, 5, none⟩ = some (.int .i64 S.st) /\ W.cell? ⟨lb, S.st, none⟩ = some (.slice (some ⟨bs S.st, 0, none⟩) (z + 1) (z + 1)) /\ W.cell? ⟨bs S.st, z, none⟩ = some (.slice va nL vc))) (by kernel_rfl) ⟨g5, cl, cv⟩ (fun hHeld0 => ?_)
     refine tkD (i := 0) (d := some 24) (v := ?_) rfl rfl (Or.inl ⟨by rfl, ?_⟩) (by assumption) ?_
     rotate_left
     · intro w hSw; (try dsimp only at hSw); (go_simp <;> with_reducible rfl)
     try simp only [Qa, Qb, Qc, Qd]
     refine tkD (i := 1) (d := some 25) (v := ?_) rfl rfl (Or.inl ⟨by rfl, ?_⟩) (by assumption) ?_
     rotate_left
     · intro w hSw; (try dsimp only at hSw); (go_simp <;> with_reducible rfl)
     try simp only [Qa, Qb, Qc, Qd]
     refine tkD (i := 2) (d := some 26) (v := ?_) rfl rfl (Or.inl ⟨by rfl, ?_⟩) (by assumption) ?_
     rotate_left
     · intro w hSw; (try dsimp only at hSw); (go_simp <;> with_reducible rfl)
     try simp only [Qa, Qb, Qc, Qd]
     refine tkD (i := 3) (d := some 27) (v := ?_) rfl rfl (Or.inl ⟨by rfl, ?_⟩) (by assumption) ?_
     rotate_left
     · intro w hSw; (try dsimp only at hSw); (go_simp <;> with_reducible rfl)
     try simp only [Qa, Qb, Qc, Qd]
     refine tkD (i := 4) (d := some 28) (v := ?_) rfl rfl (Or.inl ⟨by rfl, ?_⟩) (by assumption) ?_
     rotate_left
     · intro w hSw; (try dsimp only at hSw); (go_simp <;> with_reducible rfl)
     try simp only [Qa, Qb, Qc, Qd]
     refine tkD (i := 5) (d := some 29) (v := ?_) rfl rfl (Or.inl ⟨by rfl, ?_⟩) (by assumption) ?_
     rotate_left
     · intro w hSw; (try dsimp only at hSw); (go_simp <;> with_reducible rfl)
     try simp only [Qa, Qb, Qc, Qd]
     refine tkD (i := 6) (d := some 30) (v := ?_) rfl rfl (Or.inl ⟨by rfl, ?_⟩) (by assumption) ?_
     rotate_left
     · intro w hSw; (try dsimp only at hSw); (go_simp <;> with_reducible rfl)
     try simp only [Qa, Qb, Qc, Qd]
     refine tkD (i := 7) (d := some 31) (v := ?_) rfl rfl (Or.inl ⟨by rfl, ?_⟩) (by assumption) ?_
     rotate_left
     · intro w hSw; (try dsimp only at hSw); (go_simp <;> with_reducible rfl)
     try simp only [Qa, Qb, Qc, Qd]
     refine tkD (i := 8) (d := some 32) (v := ?_) rfl rfl (Or.inl ⟨by rfl, ?_⟩) (by assumption) ?_
     rotate_left
     · intro w hSw; (try dsimp only at hSw); (go_simp <;> with_reducible rfl)
     try simp only [Qa, Qb, Qc, Qd]
     refine tkD (i := 9) (d := some 33) (v := ?_) rfl rfl (Or.inl ⟨by rfl, ?_⟩) (by assumption) ?_
     rotate_left
     · intro w hSw; (try dsimp only at hSw); (go_simp <;> with_reducible rfl)
     try simp only [Qa, Qb, Qc, Qd]
     refine tkD (i := 10) (d := some 34) (v := ?_) rfl rfl (Or.inl ⟨by rfl, ?_⟩) (by assumption) ?_
     rotate_left
     · intro w hSw; (try dsimp only at hSw); (go_simp <;> with_reducible rfl)
     try simp only [Qa, Qb, Qc, Qd]
     refine tkD (i := 11) (d := some 35) (v := ?_) rfl rfl (Or.inl ⟨by rfl, ?_⟩) (by assumption) ?_
     rotate_left
     · intro w hSw; (try dsimp only at hSw); (go_simp <;> with_reducible rfl)
     try simp only [Qa, Qb, Qc, Qd]
     refine tkD (i := 12) (d := some 36) (v := ?_) rfl rfl (Or.inl ⟨by rfl, ?_⟩) (by assumption) ?_
     rotate_left
     · intro w hSw; (try dsimp only at hSw); (go_simp <;> with_reducible rfl)
     try simp only [Qa, Qb, Qc, Qd]
     refine tkD (i := 13) (d := some 37) (v := ?_) rfl rfl (Or.inl ⟨by rfl, ?_⟩) (by assumption) ?_
     rotate_left
     · intro w hSw; (try dsimp only at hSw); (go_simp <;> with_reducible rfl)
     try simp only [Qa, Qb, Qc, Qd]
     refine tkD (i := 14) (d := some 38) (v := ?_) rfl rfl (Or.inl ⟨by rfl, ?_⟩) (by assumption) ?_
     rotate_left
     · intro w hSw; (try dsimp only at hSw); (go_simp <;> with_reducible rfl)
     try simp only [Qa, Qb, Qc, Qd]
     refine tkD (i := 15) (d := some 39) (v := ?_) rfl rfl (Or.inl ⟨by rfl, ?_⟩) (by assumption) ?_
     rotate_left
     · intro w hSw; (try dsimp only at hSw); (go_simp <;> with_reducible rfl)
     try simp only [Qa, Qb, Qc, Qd]
     refine tkD (i := 16) (d := some 40) (v := ?_) rfl rfl (Or.inl ⟨by rfl, ?_⟩) (by assumption) ?_
     rotate_left
     · intro w hSw; (try dsimp only at hSw); (go_simp <;> with_reducible rfl)
     try simp only [Qa, Qb, Qc, Qd]
     refine wpAnyH_ready (rs := [17]) (by kernel_rfl) (by simp) ?_
     refine AllReadyH.cons (o := _) rfl (fun K hK => ?_) AllReadyH.nil
     go_simp
     go_at_call 19
     refine (HSO.out _ B0).mono ?_
     rintro e w7 ⟨⟨rv, rvc, rfl, hrc, hrP⟩, hb7⟩
     have B7 := B0.trans (hb7.mono B0.size)
     obtain ⟨zs, hzl, hzT, hv⟩ := hrP.news
     refine hK.out _ _ ?_ (fun hHeld => ?_)
     · exact ⟨(B7.cell lg).trans g5, (B7.cell hlb).trans cl, (B7.cell hbs).trans cv⟩
     clear hK K
     try simp only [Qa, Qb, Qc, Qd]
     refine wpAnyH_ready (rs := [18]) (by kernel_rfl) (by simp) ?_
     refine AllReadyH.cons (o := _) rfl (fun K hK => ?_) AllReadyH.nil
     refine step_append_anyD (d := some 42) _ rfl rfl _ _ 61 rfl (w.heap.size + 1) 22 iP _ 1 24 Tryz.underlying61 hiP hp0 hp1 hp2 rfl (by decide) _ len ys rfl (ownsRow_below'' HRow2.out B7) rv nL rvc zs rfl (by rw [hzl, Nat.mul_one]) hv (fun u hu => (hzT u hu).one) (by unfold maxLen; omega) (by omega) (Nat.le_trans hbase2 B7.size) ?_
     intro v8 w8 hown8 hgrow8 _
     obtain ⟨va8, vc8, rfl⟩ := own_slice hown8
     have HRow7 := ownsRow_below'' HRow2.out B7
     have hK8 := keptGrown HRow7 hgrow8
     have HG7 := HG2.below B7
     have hgx8 : w8.heap[w.heap.size]? = some (Obj.cells (gA S rs ca (some ⟨sb, so, none⟩) cc sc rb ro rc) 29 (0, 0)) := by
       rw [hgrow8.block _ (heap_lt' HG7.g) (rowNe HRow7 HG7.g (by decide))]; exact HG7.g
     have g58 : w8.cell? ⟨w.heap.size, 5, none⟩ = _ := cellOf hgx8 rfl
     have cl8 : w8.cell? ⟨lb, S.st, none⟩ = _ := (hgrow8.cell_far ⟨lb, S.st, none⟩ (Nat.lt_of_lt_of_le hlb B7.size) (rowNe HRow7 ((B7.block _ hlb).trans harl) (by decide))).trans ((B7.cell hlb).trans cl)
     have cv8 : w8.cell? ⟨bs S.st, z, none⟩ = _ := (hgrow8.cell_far ⟨bs S.st, z, none⟩ (Nat.lt_of_lt_of_le hbs B7.size) (rowNe HRow7 ((B7.block _ hbs).trans harb) (by decide))).trans ((B7.cell hbs).trans cv)
     refine hK.out _ _ ?_ (fun hHeld => ?_)
     · exact ⟨g58, cl8, cv8⟩
     clear hK K
     try simp only [Qa, Qb, Qc, Qd]
     refine tkD (i := 19) (d := some 6) (v := ?_) rfl rfl (Or.inl ⟨by rfl, ?_⟩) (by assumption) ?_
     rotate_left
     · intro w hSw; (try dsimp only at hSw); (go_simp <;> with_reducible rfl)
     try simp only [Qa, Qb, Qc, Qd]
     refine wpAnyH_done (by kernel_rfl) ?_ _
     have HRow8 := Lib.hid hown8
     have HYS8 : Hid (∀ y ∈ ys ++ zs, IsPr (fun p => ∃ n, Prg rs M S.st n p) w8 y) := Lib.hid fun y hy => by
       rcases List.mem_append.1 hy with hy | hy
       · exact ((HYS2.out y hy).below B7).kept hK8
       · exact (hzT y hy).kept hK8
     have hbw8 : Below w.heap.size w w8 := HG7.b.grown hgrow8 HG7.b.size (fun g hg => by
       rcases Nat.lt_or_ge g (w.heap.size + 1) with hl | hl
       · exact absurd hg.symm (row_ge HRow7 hl)
       · omega)
     have HG8 : GB w (gA S rs ca (some ⟨sb, so, none⟩) cc sc rb ro rc) w8 := ⟨hbw8, hgx8⟩
     have hbase8 : w.heap.size + 1 <= w8.heap.size := heap_lt' hgx8
     have hdl8 : d < z + 1 -> 0 < len + nL := fun hd => by
       by_cases e : d = z
       · have := HNZ.out e; omega
       · have := hdl (by omega); omega
     have n1 : (nL : Int) <= 61917364224 := by omega
     have n2 : (len : Int) < 400 := by omega
     clear hK8 HRow7 hgx8 hgrow8 hown8 hzT hzl hv hrP HG7 B7 HYS2 HRow2 g5 g58 cl cv hHeld hHeld0 hb7 HSO HG2
     by_cases h4 : 400 <= len + nL
     · have e4 : ((len : Int) + (nL : Int)) ≥ 400 := by omega
       have e5 : decide ((400 : Int) <= (len : Int) + (nL : Int)) = true := by simp; omega
       obtain ⟨len8, hlen8⟩ : ∃ len8, len8 = len + nL := ⟨_, rfl⟩
       have e6 : (400 : Int) <= (len8 : Int) := by omega
       have e7 : (len8 : Int) <= 100000000000 := by omega
       have e8' : decide ((400 : Int) <= (len8 : Int)) = true := by simp; omega
       rw [← hlen8] at HRow8 hdl8 ⊢
       clear hdl8 e4 e5 h4 hlen8
       have HRowE := HRow8
       have HYSE := HYS8
       have HBE := hbw8
       obtain ⟨g, cap, cur, e8, hg0, hcur, hnc, _, hce⟩ := own_cells HRowE.out (own_ne HRowE.out (by omega))
       cases e8
       have hlz := HRowE.out.1
       obtain ⟨mn, hmn, hmn1, hmn2, hmn4⟩ : ∃ mn : Nat, min (len8 : Int) 400 = (mn : Int) /\ 1 <= mn /\ mn <= len8 /\ mn <= 400 := ⟨min len8 400, by omega, by omega, by omega, by omega⟩
       have hmn' : (if (400 : Int) < (len8 : Int) then (400 : Int) else (len8 : Int)) = (mn : Int) := by split <;> omega
       have HCE : Hid (∀ r, r < len8 -> ∃ qa qc q, w8.cell? ⟨g, r, none⟩ = some (.slice qa (q : List Int).length qc) /\ ListT w8 qa q /\ ∃ n, Prg rs M S.st n q) := Lib.hid fun r hr => by
         have h1 := hce r (by omega)
         rw [List.getElem?_eq_getElem (by omega)] at h1
         obtain ⟨qa, qc, q, e, hq1, hq2⟩ := HYSE.out _ (List.getElem_mem (show r < (ys ++ zs).length by omega))
         exact ⟨qa, qc, q, by rw [cellOf hcur h1, e], hq1, hq2⟩
       have E1 := own_empty w8 (w.heap.size) 3 1 HBE.size
       have B1 : Below w8.heap.size w8 (w8.alloc (.cells #[] 3)) := (Below.refl _ _).alloc (Nat.le_refl _) _
       obtain ⟨iI, hiI, ha0, ha1, ha2⟩ := info_parts infoI
       have hgl := heap_lt' hcur
       have n3 : (1 : Int) <= (len8 : Int) := by omega
       have n4 : (len8 : Int) <= 100000000000 := by omega
       have n5 : ((len8 : Int) == 0) = false := by rw [beq_eq_false_iff_ne]; omega
       clear hce hlz
       go_wp2_with (first
         | (have _ := hr0; at_builtin; refine wpList_append_lies _ rfl _ _ 22 rfl w.heap.size 3 iI _ 1 8 Tryz.underlying22 hiI ha0 ha1 ha2 rfl (by decide) (.slice (some ⟨w8.heap.size, 0, none⟩) 0 0) 0 [] rfl E1 ⟨qb, qo, none⟩ q.length qc (valI q) rfl (by rw [valI_len, Nat.mul_one]) (hnq _ B1) (valI_one _) hq1 (by unfold maxLen; omega) (by omega) (Nat.le_trans HBE.size B1.size) _ rfl ?_; intro g9 cap9 w9 hown9 hgrow9 _ _)
         | (go_at_call 20; refine (mod14_any x0 mn _ (by omega) (by omega)).mono ?_; rintro e w' ⟨⟨r, hr0, rfl⟩, rfl⟩; obtain ⟨qa, qc, q, cq, hLq, nq, hPq⟩ := HCE.out r (by omega); have hq1 : 0 < q.length := (by rw [hPq.len]; exact hPq.pos); have hq5 : q.length <= 5 := (by rw [hPq.len]; exact Nat.le_trans hPq.le (HM.out _).2); obtain ⟨qb, qo, rfl, hnq⟩ := listT_news hLq hq1; have cq1 : (w8.alloc (.cells #[] 3)).cell? ⟨g, r, none⟩ = _ := (B1.cell hgl).trans cq; have r1 : (0 : Int) <= (r : Int) := (by omega); have r2 : (r : Int) < (len8 : Int) := (by omega)))
       go_ret
       rw [Nat.zero_add, List.nil_append] at hown9
       have B9 : Below w.heap.size w w9 := (HBE.alloc HBE.size _).grown hgrow9 (Nat.le_trans HBE.size B1.size) (fun g hg => by simp [Value.ownBlock] at hg; subst hg; exact HBE.size)
       obtain ⟨g', cap', e', hL', hc1, hc2⟩ := row_list2 (l := q) hown9 rfl (by simp)
       cases e'
       exact ⟨⟨_, _, _, q, by first | rfl | simp, hL', hPq, hc1, hc2⟩, B9⟩
     · have e4 : ¬ ((400 : Int) <= (len : Int) + (nL : Int)) := by omega
       have e5 : decide ((400 : Int) <= (len : Int) + (nL : Int)) = false := by simp; omega
       obtain ⟨len8, hlen8⟩ : ∃ len8, len8 = len + nL := ⟨_, rfl⟩
       have e6 : ¬ (400 : Int) <= (len8 : Int) := by omega
       have e8' : decide ((400 : Int) <= (len8 : Int)) = false := by simp; omega
       have e9 : len8 < 400 := by omega
       rw [← hlen8] at HRow8 hdl8 ⊢
       clear e4 e5 h4 hlen8
       go_wp2
       go_roundw
       case rel => first | exact ⟨z + 1, len8, _, by omega, by omega, by go_num, hbase8, HG8, HRow8, HYS8, e9, hdl8⟩ | ((repeat apply Exists.intro); refine ⟨?_, rfl⟩; exact ⟨z + 1, len8, _, by omega, by omega, by go_num, hbase8, HG8, HRow8, HYS8, e9, hdl8⟩)
       case measure => simp [intOf]; omega
   · obtain rfl : z = M S.st + 1 := by omega
     have j0 : ¬ ((M S.st + 1 : Nat) : Int) <= (M S.st : Int) := by omega
     have hlen0 := hdl (by omega)
     have HRowE := HRow
     have HYSE := HYS
     have HBE := HG.b
     clear hdl HG
     obtain ⟨g, cap, cur, e8, hg0, hcur, hnc, _, hce⟩ := own_cells HRowE.out (own_ne HRowE.out (by omega))
     cases e8
     have hlz := HRowE.out.1
     obtain ⟨mn, hmn, hmn1, hmn2, hmn4⟩ : ∃ mn : Nat, min (len : Int) 400 = (mn : Int) /\ 1 <= mn /\ mn <= len /\ mn <= 400 := ⟨min len 400, by omega, by omega, by omega, by omega⟩
     have hmn' : (if (400 : Int) < (len : Int) then (400 : Int) else (len : Int)) = (mn : Int) := by split <;> omega
     have HCE : Hid (∀ r, r < len -> ∃ qa qc q, wr.cell? ⟨g, r, none⟩ = some (.slice qa (q : List Int).length qc) /\ ListT wr qa q /\ ∃ n, Prg rs M S.st n q) := Lib.hid fun r hr => by
       have h1 := hce r (by omega)
       rw [List.getElem?_eq_getElem (by omega)] at h1
       obtain ⟨qa, qc, q, e, hq1, hq2⟩ := HYSE.out _ (List.getElem_mem (show r < ys.length by omega))
       exact ⟨qa, qc, q, by rw [cellOf hcur h1, e], hq1, hq2⟩
     have E1 := own_empty wr (w.heap.size) 3 1 HBE.size
     have B1 : Below wr.heap.size wr (wr.alloc (.cells #[] 3)) := (Below.refl _ _).alloc (Nat.le_refl _) _
     obtain ⟨iI, hiI, ha0, ha1, ha2⟩ := info_parts infoI
     have hgl := heap_lt' hcur
     have n3 : (1 : Int) <= (len : Int) := by omega
     have n4 : (len : Int) <= 100000000000 := by omega
     have n5 : ((len : Int) == 0) = false := by rw [beq_eq_false_iff_ne]; omega
     clear hce hlz
     go_wp2_with (first
       | (have _ := hr0; at_builtin; refine wpList_append_lies _ rfl _ _ 22 rfl w.heap.size 3 iI _ 1 8 Tryz.underlying22 hiI ha0 ha1 ha2 rfl (by decide) (.slice (some ⟨wr.heap.size, 0, none⟩) 0 0) 0 [] rfl E1 ⟨qb, qo, none⟩ q.length qc (valI q) rfl (by rw [valI_len, Nat.mul_one]) (hnq _ B1) (valI_one _) hq1 (by unfold maxLen; omega) (by omega) (Nat.le_trans HBE.size B1.size) _ rfl ?_; intro g9 cap9 w9 hown9 hgrow9 _ _)
       | (go_at_call 20; refine (mod14_any x0 mn _ (by omega) (by omega)).mono ?_; rintro e w' ⟨⟨r, hr0, rfl⟩, rfl⟩; obtain ⟨qa, qc, q, cq, hLq, nq, hPq⟩ := HCE.out r (by omega); have hq1 : 0 < q.length := (by rw [hPq.len]; exact hPq.pos); have hq5 : q.length <= 5 := (by rw [hPq.len]; exact Nat.le_trans hPq.le (HM.out _).2); obtain ⟨qb, qo, rfl, hnq⟩ := listT_news hLq hq1; have cq1 : (wr.alloc (.cells #[] 3)).cell? ⟨g, r, none⟩ = _ := (B1.cell hgl).trans cq; have r1 : (0 : Int) <= (r : Int) := (by omega); have r2 : (r : Int) < (len : Int) := (by omega)))
     go_ret
     rw [Nat.zero_add, List.nil_append] at hown9
     have B9 : Below w.heap.size w w9 := (HBE.alloc HBE.size _).grown hgrow9 (Nat.le_trans HBE.size B1.size) (fun g hg => by simp [Value.ownBlock] at hg; subst hg; exact HBE.size)
     obtain ⟨g', cap', e', hL', hc1, hc2⟩ := row_list2 (l := q) hown9 rfl (by simp)
     cases e'
     exact ⟨⟨_, _, _, q, by first | rfl | simp, hL', hPq, hc1, hc2⟩, B9⟩
end
end Go.EvPart
