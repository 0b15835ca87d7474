/- ItemPartials, one part of the proof: PartS3. -/
import Derived.Test.YtljoobbnhbaklaaGreatDoorP26
import Derived.Test.YtljoobbnhbaklaaGreatDoorP24
set_option linter.all false
set_option maxRecDepth 100000
set_option maxHeartbeats 16000000
namespace Go.EvPart
open Go Go.Proofs Go.RowKit Go.EvNil
theorem pre_le {α : Type} (F : Nat -> List α) (l : List α) (n : Nat) (h1 : 1 <= n) (hl : l.length <= (F n).length) : ∀ N, n <= N -> ((List.range' 1 (n - 1)).flatMap F ++ l).length <= ((List.range' 1 N).flatMap F).length
 | 0, h => by omega
 | N + 1, h => by
   rw [List.range'_1_concat, List.flatMap_append]
   by_cases e : n <= N
   · have := pre_le F l n h1 hl N e
     simp only [List.length_append] at *
     omega
   · obtain rfl : n = N + 1 := by omega
     rw [List.flatMap_cons, List.flatMap_nil, List.append_nil, Nat.add_sub_cancel, Nat.add_comm 1 N]
     simp only [List.length_append]
     omega
theorem pre_step {α : Type} (F : Nat -> List α) (n : Nat) (h1 : 1 <= n) : (List.range' 1 (n - 1)).flatMap F ++ F n = (List.range' 1 (n + 1 - 1)).flatMap F := by
 obtain ⟨m, rfl⟩ : ∃ m, n = m + 1 := ⟨n - 1, by omega⟩
 rw [Nat.add_sub_cancel, Nat.add_sub_cancel, List.range'_1_concat, List.flatMap_append, List.flatMap_cons, List.flatMap_nil, List.append_nil, Nat.add_comm 1 m]
theorem take_step {α β : Type} (G : α -> List β) (l : List α) (k : Nat) (hk : k < l.length) : (l.take k).flatMap G ++ G l[k] = (l.take (k + 1)).flatMap G := by
 rw [List.take_succ_eq_append_getElem hk, List.flatMap_append, List.flatMap_cons, List.flatMap_nil, List.append_nil]
theorem take_le {α β : Type} (G : α -> List β) (l : List α) (k : Nat) : ((l.take k).flatMap G).length <= (l.flatMap G).length := by
 conv => rhs; rw [← List.take_append_drop k l]
 rw [List.flatMap_append, List.length_append]; omega
theorem row_base {w : World} {base : Nat} {e : TypeId} {size : Nat} {g n cap k : Nat} {xs : List Value} (h : w.ownsRow base e size (.slice (some ⟨g, 0, none⟩) n cap) k xs) : base <= g := by
 rcases h.2 with ⟨e1, _⟩ | ⟨g', cap', cur, e1, e2, _⟩
 · cases e1
 · cases e1; exact e2
theorem listT_own {w : World} {base g n cap : Nat} {l : List Int} (h : w.ownsRow base 3 1 (.slice (some ⟨g, 0, none⟩) n cap) n (valI l)) (hl : l.length = n) : ListT w (some ⟨g, 0, none⟩) l /\ l.length <= cap := by
 obtain ⟨g', cap', cur, e1, e2, e3, e4, e5, e6⟩ := own_cells h (by simp)
 cases e1
 subst hl
 refine ⟨fun _ => ⟨g, 0, cur, (0, 0), rfl, e3, fun i hi => ?_⟩, e4⟩
 have := e6 i (by omega)
 rw [valI, List.getElem?_map, List.getElem?_eq_getElem hi] at this
 rw [Nat.zero_add]; exact this
theorem listT_news {W : World} {qa : Option Addr} {q : List Int} (h : ListT W qa q) (h0 : 0 < q.length) : ∃ qb qo, qa = some ⟨qb, qo, none⟩ /\ ∀ X, Below W.heap.size W X -> ∀ (j : Nat) u, (valI q)[j]? = some u -> X.cell? (Addr.add ⟨qb, qo, none⟩ j) = some u := by
 obtain ⟨qb, qo, e, hl, hc⟩ := h.at' h0
 refine ⟨qb, qo, e, fun X hX j u hu => ?_⟩
 have := part_cells (w := X) (pb := qb) (po := qo) (p := q) (fun i hi => (hX.cell hl).trans (hc i hi)) 0 q.length j u (by rw [List.drop_zero, List.take_length]; exact hu)
 rwa [Nat.add_zero] at this
structure JI (W wr : World) (v : Value) (l : List (List Int)) : Prop where
 row : ∃ ys, wr.ownsRow W.heap.size 22 1 v l.length ys /\ PrL wr ys l
 b : Below W.heap.size W wr
theorem JI.below {W wr w' : World} {v : Value} {l : List (List Int)} (h : JI W wr v l) (hb : Below wr.heap.size wr w') : JI W w' v l := by
 obtain ⟨ys, h1, h2⟩ := h.row
 exact ⟨⟨ys, ownsRow_below'' h1 hb, h2.below hb⟩, h.b.trans (hb.mono h.b.size)⟩
def RetL (l : List (List Int)) (e : Ending) (w' : World) : Prop := ∃ va vc, e = .returned (.slice va l.length vc) /\ PrsAt w' va l /\ (va = none -> l = [] /\ vc = 0) /\ l.length <= vc
theorem JI.ret {W wr : World} {v : Value} {l : List (List Int)} (h : JI W wr v l) : RetL l (.returned v) wr := by
 obtain ⟨ys, h1, h2⟩ := h.row
 obtain ⟨va, vc, e, h3, h4, h5⟩ := prs_of_own h1 h2 rfl
 exact ⟨va, vc, by rw [e], h3, h4, h5⟩
theorem JI.start (W wr : World) (hb : Below W.heap.size W wr) : JI W wr (.slice none 0 0) [] := ⟨⟨[], World.ownsRow_nil _ _ _ _, trivial⟩, hb⟩
theorem JI.next {W wr w5 : World} {v v5 : Value} {l m : List (List Int)} {ys zs : List Value} (h1 : wr.ownsRow W.heap.size 22 1 v l.length ys) (h2 : PrL wr ys l) (hz : PrL wr zs m) (hb : Below W.heap.size W wr) (hown : w5.ownsRow W.heap.size 22 1 v5 (l.length + m.length) (ys ++ zs)) (hg : wr.grownBy w5 v.ownBlock) : JI W w5 v5 (l ++ m) :=
 ⟨⟨ys ++ zs, by rw [List.length_append]; exact hown, (h2.kept (keptGrown h1 hg)).app (hz.kept (keptGrown h1 hg))⟩, hb.grown hg hb.size fun g hg' => by
   rcases Nat.lt_or_ge g W.heap.size with hl | hl
   · exact absurd hg'.symm (row_ge h1 hl)
   · exact hl⟩
attribute [local irreducible] wpStill wpAnyH in
theorem rjoin_any (sb sn : Nat) (Z : Nat -> Nat) (L : Nat -> Nat -> List (List Int)) (W0 : World) (hT : TabAt W0 sb sn Z L) (hK : TabN 144 L) (hZ : ∀ a, Z a <= 6) (hq : ∀ a i, ∀ q ∈ L a i, 1 <= q.length /\ q.length <= 100) :
   ∀ (args : List Nat), (∀ a ∈ args, a < sn) -> args.length <= 3 -> ∀ (b : List Int) (m bc ac : Nat) (ba aa : Option Addr) (W : World), Below W0.heap.size W0 W -> ListT W ba b -> 1 <= b.length -> b.length + 100 * args.length <= 1000 -> b.length <= bc -> ArgsAt W aa args -> args.length <= ac -> m <= 4 ->
     Calls Tryz.prog 45 #[.pointer (some ⟨sb, 0, none⟩), .slice ba b.length bc, .slice aa args.length ac, .int .i64 m] W fun e w' => RetL (lists L Z b args m) e w' /\ Below W.heap.size W w' := by
 intro args
 induction args with
 | nil =>
   intro _ _ b m bc ac ba aa W hW hb hb1 hbl hbc hA hac hm
   by_cases h0 : m = 0
   · subst h0
     have HB := Lib.hid hb
     clear hb hA hT
     go_enter Tryz.func45, Tryz.ntmps45
     go_wp2
     go_ret
     have hbw : Below W.heap.size W (W.alloc (.cells #[.slice ba b.length bc] 22)) := (Below.refl _ _).alloc (Nat.le_refl _) _
     exact ⟨⟨some ⟨W.heap.size, 0, none⟩, 1, rfl, fun _ => ⟨W.heap.size, 0, _, _, [.slice ba b.length bc], rfl, heapNew W _, ⟨⟨ba, bc, rfl, HB.out.below hbw⟩, trivial⟩, fun i u hu => by
       cases i with
       | zero => simpa using hu
       | succ i => simp at hu⟩, fun h => (by cases h), Nat.le_refl _⟩, hbw⟩
   · have e0 : ((m : Int) == 0) = false := by rw [beq_eq_false_iff_ne]; omega
     have e1 : ¬ (m : Int) = 0 := by omega
     have hl : lists L Z b [] m = [] := by unfold lists; rw [if_neg h0]
     rw [hl]
     clear hb hA hT
     go_enter Tryz.func45, Tryz.ntmps45
     go_wp2
     go_ret
     exact ⟨⟨none, 0, rfl, fun h => by simp at h, fun _ => ⟨rfl, rfl⟩, Nat.le_refl _⟩, Below.refl _ _⟩
 | cons a ar IH =>
   intro has hal b m bc ac ba aa W hW hb hb1 hbl hbc hA hac hm
   obtain ⟨ab, ao, rfl, hab, hax⟩ := hA (by simp)
   have CA := hax 0 (by simp)
   rw [List.getElem_cons_zero, Nat.add_zero] at CA
   have hasn : a < sn := has a (List.mem_cons_self ..)
   obtain ⟨hsb0, lb, lc, bs, D6, hlb0, hD⟩ := hT
   obtain ⟨hbs0, DL, hDB⟩ := hD a hasn
   have C6 := (hW.cell (p := ⟨sb, 6, none⟩) hsb0).trans D6
   have CL := (hW.cell (p := ⟨lb, a, none⟩) hlb0).trans DL
   have hsb : sb < W.heap.size := Nat.lt_of_lt_of_le hsb0 hW.size
   have hlb : lb < W.heap.size := Nat.lt_of_lt_of_le hlb0 hW.size
   have hbs : bs a < W.heap.size := Nat.lt_of_lt_of_le hbs0 hW.size
   rw [List.length_cons] at *
   obtain ⟨N, hN⟩ : ∃ N, N = min (m - ar.length) (Z a - 1) := ⟨_, rfl⟩
   have hZa := hZ a
   obtain ⟨F, hF⟩ : ∃ F : Nat -> List (List Int), F = fun n => (L a n).flatMap fun q => lists L Z (b ++ q) ar (m - n) := ⟨_, rfl⟩
   have hlists : lists L Z b (a :: ar) m = (List.range' 1 N).flatMap F := by rw [hN, hF]; rfl
   have hlen := lists_len (Z := Z) (by decide) hK (a :: ar) b m
   rw [hlists] at hlen ⊢
   have hlen2 : ((List.range' 1 N).flatMap F).length <= 6879707136 := Nat.le_trans hlen (by
     have h1 : (2 : Nat) ^ m <= 2 ^ 4 := Nat.pow_le_pow_right (by omega) hm
     have h2 : (144 : Nat) ^ m <= 144 ^ 4 := Nat.pow_le_pow_right (by omega) hm
     exact Nat.mul_le_mul h1 h2)
   have HLEN := Lib.hid hlen2
   have HTN := Lib.hid hK
   have HB := Lib.hid hb
   have HAX := Lib.hid hax
   have HDB := Lib.hid hDB
   have HIH := Lib.hid IH
   have HW0 := Lib.hid hW
   have HAS := Lib.hid has
   have HQ := Lib.hid hq
   have HFF := Lib.hid hF
   have HNe := Lib.hid hN
   have hNa : N <= m - ar.length := by omega
   have hNb : N <= Z a - 1 := by omega
   clear hN
   clear hlen hlen2 hb hax hDB IH hW has hq hD hK hA hlists hF
   go_enter Tryz.func45, Tryz.ntmps45
   go_wp2
   go_loopw [9, 10] (fun v i wr => ∃ n : Nat, 1 <= n /\ n <= N + 1 /\ i = .int .i64 n /\ JI W wr v ((List.range' 1 (n - 1)).flatMap F)) (fun _ i _ => N + 1 - (intOf i).toNat)
   case atStart => exact ⟨1, by omega, by omega, rfl, JI.start _ _ (Below.refl _ _)⟩
   case round =>
     obtain ⟨n, hn1, hnN, rfl, hJ⟩ := hrel
     have hbr := hJ.b
     have hbd := hbr.drew
     have C6r : wr.drew.cell? ⟨sb, 6, none⟩ = _ := (hbr.cell hsb).trans C6
     have CAr : wr.drew.cell? ⟨ab, ao, none⟩ = _ := (hbr.cell hab).trans CA
     have CLr : wr.drew.cell? ⟨lb, a, none⟩ = _ := (hbr.cell hlb).trans CL
     have j1 : (0 : Int) <= (a : Int) := by omega
     have j2 : (a : Int) < (sn : Int) := by omega
     have j3 : (m : Int) <= 4 := by omega
     have j4 : (ar.length : Int) + 1 <= 3 := by omega
     have j5 : (Z a : Int) <= 6 := by omega
     have j6 : (n : Int) <= 7 := by omega
     have hw1 : IntKind.i64.wrap (ar.length : Int) = (ar.length : Int) := IntWalk.i64_in _ ⟨by omega, by omega⟩
     have hw2 : IntKind.i64.wrap ((m : Int) - (ar.length : Int)) = (m : Int) - (ar.length : Int) := IntWalk.i64_in _ ⟨by omega, by omega⟩
     by_cases hle : n <= N
     · have d1 : (n : Int) <= (m : Int) - (ar.length : Int) := by omega
       have d2 : decide ((n : Int) <= (m : Int) - (ar.length : Int)) = true := by simp; omega
       have d3 : decide ((n : Int) < (Z a : Int)) = true := by simp; omega
       go_wp2
       refine wp_region_still_lit (by kernel_rfl) (by kernel_rfl) ?_
       change wpStill _ _ wr.drew (fun a' => Exit.then _ _ Exit.normal a' wr.drew) _ _
       have hJd := hJ.below ((Below.refl _ _).drew)
       clear hJ
       generalize wr.drew = w1 at *
       repeat still_step
       refine wpStill_nil ?_
       have d4 : n < Z a := by omega
       have d5 : decide (n < Z a) = true := by simp; omega
       rw [d5]
       obtain ⟨va, vc, DV, hP⟩ := HDB.out n d4
       have CB := (HW0.out.cell (p := ⟨bs a, n, none⟩) hbs0).trans DV
       obtain ⟨pre, hpre⟩ : ∃ pre : List (List Int), (List.range' 1 (n - 1)).flatMap F = pre := ⟨_, rfl⟩
       rw [hpre] at hJd
       have HPRE := Lib.hid hpre
       clear hpre C6r CAr CLr DV
       have hl0 : (L a n).length <= 429981696 := Nat.le_trans ((HTN.out) a n) (by
         have h2 : (144 : Nat) ^ n <= 144 ^ 4 := Nat.pow_le_pow_right (by omega) (by omega)
         exact h2)
       go_wp2
       go_loopw [9, 11] (fun v i wr => ∃ k : Nat, k <= (L a n).length /\ i = .int .i64 k /\ JI W wr v (pre ++ ((L a n).take k).flatMap fun q => lists L Z (b ++ q) ar (m - n))) (fun _ i _ => (L a n).length - (intOf i).toNat)
       case atStart => exact ⟨0, Nat.zero_le _, rfl, by simpa using hJd⟩
       case round =>
         clear hJd hbd hbr
         obtain ⟨k, hk, rfl, hJ⟩ := hrel
         have hbr := hJ.b
         have hbd := hbr.drew
         have C6r : wr.drew.cell? ⟨sb, 6, none⟩ = _ := (hbr.cell hsb).trans C6
         have CAr : wr.drew.cell? ⟨ab, ao, none⟩ = _ := (hbr.cell hab).trans CA
         have CLr : wr.drew.cell? ⟨lb, a, none⟩ = _ := (hbr.cell hlb).trans CL
         have CBr : wr.drew.cell? ⟨bs a, n, none⟩ = _ := (hbr.cell hbs).trans CB
         have k1 : (0 : Int) <= (n : Int) := by omega
         have k2 : (n : Int) < (Z a : Int) := by omega
         have k3 : ((L a n).length : Int) <= 429981696 := by omega
         by_cases hlt : k < (L a n).length
         · have e2 : decide ((k : Int) < ((L a n).length : Int)) = true := by simp; omega
           have e3 : decide (k < (L a n).length) = true := by simp; omega
           go_wp2
           refine wp_region_still_lit (by kernel_rfl) (by kernel_rfl) ?_
           change wpStill _ _ wr.drew (fun a' => Exit.then _ _ Exit.normal a' wr.drew) _ _
           have hJd := hJ.below ((Below.refl _ _).drew)
           clear hJ hbr
           generalize wr.drew = w2 at *
           repeat still_step
           refine wpStill_nil ?_
           try rw [e3]
           have hb0 := HW0.out.trans (hbd.mono HW0.out.size)
           obtain ⟨vb, vo, rfl, hvb0, hvc⟩ := hP.cell (by omega)
           obtain ⟨v0, CV0, qa, qc, rfl, hLq⟩ := hvc k hlt
           have hqm := HQ.out a n _ (List.getElem_mem hlt)
           obtain ⟨q, hqe⟩ : ∃ q, (L a n)[k] = q := ⟨_, rfl⟩
           rw [hqe] at CV0 hLq hqm
           obtain ⟨hq1, hq2⟩ := hqm
           obtain ⟨qb, qo, rfl, hnq⟩ := listT_news hLq (by omega)
           obtain ⟨bb, bo, rfl, hnb⟩ := listT_news HB.out (by omega)
           have HNQ := Lib.hid hnq
           have HNB := Lib.hid hnb
           have CVr : w2.cell? ⟨vb, vo + k, none⟩ = some (.slice (some ⟨qb, qo, none⟩) q.length qc) := (hb0.cell hvb0).trans CV0
           have hsb2 : sb < w2.heap.size := Nat.lt_of_lt_of_le hsb hbd.size
           have hab2 : ab < w2.heap.size := Nat.lt_of_lt_of_le hab hbd.size
           have hlb2 : lb < w2.heap.size := Nat.lt_of_lt_of_le hlb hbd.size
           have hbs2 : bs a < w2.heap.size := Nat.lt_of_lt_of_le hbs hbd.size
           have hvb2 : vb < w2.heap.size := Nat.lt_of_lt_of_le hvb0 hb0.size
           have k4 : (0 : Int) <= (k : Int) := by omega
           have k5 : (k : Int) < ((L a n).length : Int) := by omega
           have lb1 : (valI b).length = b.length * 1 := by rw [valI_len, Nat.mul_one]
           have lq1 : (valI q).length = q.length * 1 := by rw [valI_len, Nat.mul_one]
           obtain ⟨iI, hiI, ha0, ha1, ha2⟩ := info_parts infoI
           clear hvc hLq CV0 hnq hnb
           go_wp2
           have B0 : Below w2.heap.size w2 w2.drew := (Below.refl _ _).drew
           refine wp_region_held_drew (S := (fun W => W.cell? ⟨sb, 6, none⟩ = some (.slice (some ⟨lb, 0, none⟩) sn lc) /\ W.cell? ⟨ab, ao, none⟩ = some (.int .i64 a) /\ W.cell? ⟨lb, a, none⟩ = some (.slice (some ⟨bs a, 0, none⟩) (Z a) (Z a)) /\ W.cell? ⟨bs a, n, none⟩ = some (.slice (some ⟨vb, vo, none⟩) (L a n).length vc) /\ W.cell? ⟨vb, vo + k, none⟩ = some (.slice (some ⟨qb, qo, none⟩) q.length qc))) (by kernel_rfl) ⟨C6r, CAr, CLr, CBr, CVr⟩ (fun hHeld0 => ?_)
           refine tkD (i := 1) (d := some 61) (v := ?_) rfl rfl (Or.inl ⟨by rfl, ?_⟩) (by assumption) ?_
           rotate_left
           · intro w hSw; (try dsimp only at hSw); (go_simp <;> with_reducible rfl)
           try simp only [Qa, Qb, Qc, Qd]
           refine tkD (i := 3) (d := some 63) (v := ?_) rfl rfl (Or.inl ⟨by rfl, ?_⟩) (by assumption) ?_
           rotate_left
           · intro w hSw; (try dsimp only at hSw); (go_simp <;> with_reducible rfl)
           try simp only [Qa, Qb, Qc, Qd]
           refine tkD (i := 4) (d := some 64) (v := ?_) rfl rfl (Or.inl ⟨by rfl, ?_⟩) (by assumption) ?_
           rotate_left
           · intro w hSw; (try dsimp only at hSw); (go_simp <;> with_reducible rfl)
           try simp only [Qa, Qb, Qc, Qd]
           refine tkD (i := 5) (d := some 65) (v := ?_) rfl rfl (Or.inl ⟨by rfl, ?_⟩) (by assumption) ?_
           rotate_left
           · intro w hSw; (try dsimp only at hSw); (go_simp <;> with_reducible rfl)
           try simp only [Qa, Qb, Qc, Qd]
           refine tkD (i := 6) (d := some 66) (v := ?_) rfl rfl (Or.inl ⟨by rfl, ?_⟩) (by assumption) ?_
           rotate_left
           · intro w hSw; (try dsimp only at hSw); (go_simp <;> with_reducible rfl)
           try simp only [Qa, Qb, Qc, Qd]
           refine tkD (i := 7) (d := some 67) (v := ?_) rfl rfl (Or.inl ⟨by rfl, ?_⟩) (by assumption) ?_
           rotate_left
           · intro w hSw; (try dsimp only at hSw); (go_simp <;> with_reducible rfl)
           try simp only [Qa, Qb, Qc, Qd]
           refine tkD (i := 8) (d := some 68) (v := ?_) rfl rfl (Or.inl ⟨by rfl, ?_⟩) (by assumption) ?_
           rotate_left
           · intro w hSw; (try dsimp only at hSw); (go_simp <;> with_reducible rfl)
           try simp only [Qa, Qb, Qc, Qd]
           refine tkD (i := 9) (d := some 69) (v := ?_) rfl rfl (Or.inl ⟨by rfl, ?_⟩) (by assumption) ?_
           rotate_left
           · intro w hSw; (try dsimp only at hSw); (go_simp <;> with_reducible rfl)
           try simp only [Qa, Qb, Qc, Qd]
           refine tkD (i := 10) (d := some 70) (v := ?_) rfl rfl (Or.inl ⟨by rfl, ?_⟩) (by assumption) ?_
           rotate_left
           · intro w hSw; (try dsimp only at hSw); (go_simp <;> with_reducible rfl)
           try simp only [Qa, Qb, Qc, Qd]
           refine tkD (i := 11) (d := some 71) (v := ?_) rfl rfl (Or.inl ⟨by rfl, ?_⟩) (by assumption) ?_
           rotate_left
           · intro w hSw; (try dsimp only at hSw); (go_simp <;> with_reducible rfl)
           try simp only [Qa, Qb, Qc, Qd]
           refine tkD (i := 12) (d := some 72) (v := ?_) rfl rfl (Or.inl ⟨by rfl, ?_⟩) (by assumption) ?_
           rotate_left
           · intro w hSw; (try dsimp only at hSw); (go_simp <;> with_reducible rfl)
           try simp only [Qa, Qb, Qc, Qd]
           refine tkD (i := 13) (d := some 73) (v := ?_) rfl rfl (Or.inl ⟨by rfl, ?_⟩) (by assumption) ?_
           rotate_left
           · intro w hSw; (try dsimp only at hSw); (go_simp <;> with_reducible rfl)
           try simp only [Qa, Qb, Qc, Qd]
           refine tkD (i := 14) (d := some 74) (v := ?_) rfl rfl (Or.inl ⟨by rfl, ?_⟩) (by assumption) ?_
           rotate_left
           · intro w hSw; (try dsimp only at hSw); (go_simp <;> with_reducible rfl)
           try simp only [Qa, Qb, Qc, Qd]
           refine tkD (i := 15) (d := some 75) (v := ?_) rfl rfl (Or.inl ⟨by rfl, ?_⟩) (by assumption) ?_
           rotate_left
           · intro w hSw; (try dsimp only at hSw); (go_simp <;> with_reducible rfl)
           try simp only [Qa, Qb, Qc, Qd]
           refine tkD (i := 16) (d := some 76) (v := ?_) rfl rfl (Or.inl ⟨by rfl, ?_⟩) (by assumption) ?_
           rotate_left
           · intro w hSw; (try dsimp only at hSw); (go_simp <;> with_reducible rfl)
           try simp only [Qa, Qb, Qc, Qd]
           refine tkD (i := 17) (d := some 77) (v := ?_) rfl rfl (Or.inl ⟨by rfl, ?_⟩) (by assumption) ?_
           rotate_left
           · intro w hSw; (try dsimp only at hSw); (go_simp <;> with_reducible rfl)
           try simp only [Qa, Qb, Qc, Qd]
           refine wpAnyH_ready (rs := [0]) (by kernel_rfl) (by simp) ?_
           refine AllReadyH.cons (o := _) rfl (fun K hK => ?_) AllReadyH.nil
           go_simp
           have B1 := B0.alloc (Nat.le_refl _) (.cells #[] 3)
           have E1 := own_empty w2.drew w2.heap.size 3 1 (Nat.le_refl _)
           refine hK.out _ _ ?_ (fun hHeld => ?_)
           · exact ⟨(B1.cell hsb2).trans C6r, (B1.cell hab2).trans CAr, (B1.cell hlb2).trans CLr, (B1.cell hbs2).trans CBr, (B1.cell hvb2).trans CVr⟩
           clear hK K
           try simp only [Qa, Qb, Qc, Qd]
           refine wpAnyH_ready (rs := [2]) (by kernel_rfl) (by simp) ?_
           refine AllReadyH.cons (o := _) rfl (fun K hK => ?_) AllReadyH.nil
           refine step_append_liesD (d := some 62) _ rfl rfl _ _ 22 rfl w2.heap.size 3 iI _ 1 8 Tryz.underlying22 hiI ha0 ha1 ha2 rfl (by decide) (.slice (some ⟨w2.heap.size, 0, none⟩) 0 0) 0 [] rfl E1 ⟨bb, bo, none⟩ b.length bc (valI b) rfl lb1 (HNB.out _ (hbd.trans (B1.mono hbd.size))) (valI_one _) hb1 (by unfold maxLen; omega) (by omega) B1.size _ rfl ?_
           intro g1 cap1 w5 hown2 hgrow2 _ hlt2
           rw [Nat.zero_add, List.nil_append] at hown2
           have B2 := B1.grown hgrow2 B1.size (fun g hg => by simp [Value.ownBlock] at hg; subst hg; exact Nat.le_refl _)
           refine hK.out _ _ ?_ (fun hHeld => ?_)
           · exact ⟨(B2.cell hsb2).trans C6r, (B2.cell hab2).trans CAr, (B2.cell hlb2).trans CLr, (B2.cell hbs2).trans CBr, (B2.cell hvb2).trans CVr⟩
           clear hK K
           try simp only [Qa, Qb, Qc, Qd]
           refine wpAnyH_ready (rs := [18]) (by kernel_rfl) (by simp) ?_
           refine AllReadyH.cons (o := _) rfl (fun K hK => ?_) AllReadyH.nil
           refine step_append_liesD (d := some 78) _ rfl rfl _ _ 22 rfl w2.heap.size 3 iI _ 1 8 Tryz.underlying22 hiI ha0 ha1 ha2 rfl (by decide) (.slice (some ⟨g1, 0, none⟩) (0 + b.length) cap1) b.length (valI b) rfl (by rw [Nat.zero_add]; exact hown2) ⟨qb, qo, none⟩ q.length qc (valI q) rfl lq1 (HNQ.out _ (hb0.trans (B2.mono hb0.size))) (valI_one _) hq1 (by unfold maxLen; omega) (by omega) B2.size _ rfl ?_
           intro g2 cap2 w6 hown3 hgrow3 _ hlt3
           have B3 := B2.grown hgrow3 B2.size (fun g hg => by simp [Value.ownBlock] at hg; subst hg; exact row_base hown2)
           refine hK.out _ _ ?_ (fun hHeld => ?_)
           · exact ⟨(B3.cell hsb2).trans C6r, (B3.cell hab2).trans CAr, (B3.cell hlb2).trans CLr, (B3.cell hbs2).trans CBr, (B3.cell hvb2).trans CVr⟩
           clear hK K
           try simp only [Qa, Qb, Qc, Qd]
           refine tkD (i := 19) (d := some 12) (v := ?_) rfl rfl (Or.inl ⟨by rfl, ?_⟩) (by assumption) ?_
           rotate_left
           · intro w hSw; (try dsimp only at hSw); (go_simp <;> with_reducible rfl)
           try simp only [Qa, Qb, Qc, Qd]
           refine wpAnyH_done (by kernel_rfl) ?_ _
           have hJ6 := hJd.below (B3)
           have hTL := (listT_own (l := b ++ q) (by rw [valI_app]; exact hown3) (by rw [List.length_append]))
           clear C6r CAr CLr CBr CVr hHeld0 hHeld hown2 hgrow2 hown3 hgrow3 B1 E1 B2 hJd hlt2 hlt3
           have hb6 := hbd.trans (B3.mono hbd.size)
           have hb06 := hb0.trans (B3.mono hb0.size)
           obtain ⟨ta, hif, hTA⟩ : ∃ ta, (if ac = 1 then some (⟨ab, ao, none⟩ : Addr) else some ⟨ab, ao + 1, none⟩) = ta /\ ArgsAt W ta ar := by
             by_cases h1 : ac = 1
             · exact ⟨_, if_pos h1, fun h0 => by omega⟩
             · refine ⟨_, if_neg h1, fun _ => ⟨ab, ao + 1, rfl, hab, fun i hi => ?_⟩⟩
               have := HAX.out (i + 1) (by rw [List.length_cons]; omega)
               rw [List.getElem_cons_succ] at this
               rw [show ao + 1 + i = ao + (i + 1) by omega]; exact this
           obtain ⟨res, hres⟩ : ∃ res, lists L Z (b ++ q) ar (m - n) = res := ⟨_, rfl⟩
           have HI := HIH.out (fun x hx => HAS.out x (List.mem_cons_of_mem _ hx)) (by omega) (b ++ q) (m - n) cap2 (ac - 1) (some ⟨g2, 0, none⟩) ta w6 hb06 hTL.1 (by rw [List.length_append]; omega) (by rw [List.length_append]; omega) hTL.2 (hTA.below hb6) (by omega) (by omega)
           rw [hres, show ((m - n : Nat) : Int) = (m : Int) - (n : Int) by omega, List.length_append] at HI
           have hst := take_step (fun q => lists L Z (b ++ q) ar (m - n)) (L a n) k hlt
           rw [hqe, hres] at hst
           have hbd1 : (pre ++ ((L a n).take (k + 1)).flatMap fun q => lists L Z (b ++ q) ar (m - n)).length <= 6879707136 := Nat.le_trans (by
             rw [← HPRE.out]
             exact pre_le F _ n hn1 (by rw [HFF.out]; exact take_le _ _ _) N hle) HLEN.out
           rw [← hst, ← List.append_assoc] at hbd1
           have HST := Lib.hid hst
           obtain ⟨pk, hpk⟩ : ∃ pk, (pre ++ ((L a n).take k).flatMap fun q => lists L Z (b ++ q) ar (m - n)) = pk := ⟨_, rfl⟩
           rw [hpk] at hbd1 hJ6
           rw [List.length_append] at hbd1
           have HPK := Lib.hid hpk
           have HI' := Lib.hid HI
           have HRES := Lib.hid hres
           obtain ⟨iP, hiP, hp0, hp1, hp2⟩ := info_parts infoP
           have m1 : ((m : Int) - (n : Int)) <= 4 := by omega
           have m2 : (n : Int) <= (m : Int) := by omega
           have m3 : (1 : Int) <= (ac : Int) := by omega
           have m4 : (ar.length : Int) + 1 <= (ac : Int) := by omega
           clear hst hpk HI hres hTA hTL
           go_wp2_with (first
             | (have _ := hb7; at_builtin; refine wpList_append_any _ rfl _ _ 61 rfl W.heap.size 22 iP _ 1 24 Tryz.underlying61 hiP hp0 hp1 hp2 rfl (by decide) _ _ ys rfl hys rva res.length rvc zs rfl (by rw [hzs.len, Nat.mul_one]) hv hzs.one (by unfold maxLen; omega) (by omega) hb70.size ?_; intro v8 w8 hown8 hgrow8 _)
             | (go_at_call 45; refine HI'.out.mono ?_; rintro e w7 ⟨⟨rva, rvc, rfl, hrp, hrn, hrc⟩, hb7⟩; obtain ⟨ys, hys, hyp⟩ := (hJ6.below hb7).row; have hb70 := (hJ6.below hb7).b; obtain ⟨zs, hzs, hv0⟩ := hrp.news (fun h => (hrn h).1); have hv : (∃ ad, rva = some ad /\ ∀ (j : Nat) u, zs[j]? = some u -> w7.cell? (ad.add j) = some u) ∨ (rva = none /\ res.length = 0) := (by rcases hv0 with h | ⟨h1, h2⟩; exact .inl h; exact .inr ⟨h1, by rw [h2]; rfl⟩)))
           exact ⟨⟨k + 1, by omega, by go_num, by rw [← HST.out, ← List.append_assoc, HPK.out]; exact JI.next hys hyp hzs hb70 hown8 hgrow8⟩, by simp [intOf]; omega⟩
         · obtain rfl : k = (L a n).length := by omega
           have e2 : decide (((L a n).length : Int) < ((L a n).length : Int)) = false := by simp
           have e3 : decide ((L a n).length < (L a n).length) = false := by simp
           go_wp2
           refine wp_region_still_lit (by kernel_rfl) (by kernel_rfl) ?_
           change wpStill _ _ wr.drew (fun a' => Exit.then _ _ Exit.normal a' wr.drew) _ _
           have hJd := hJ.below ((Below.refl _ _).drew)
           clear hJ hbr
           generalize wr.drew = w2 at *
           repeat still_step
           refine wpStill_nil ?_
           try rw [e3]
           have hJ2 : JI W w2 u9 ((List.range' 1 (n + 1 - 1)).flatMap F) := by
             rw [← pre_step F n hn1, HPRE.out, HFF.out]
             rw [List.take_length] at hJd
             exact hJd
           clear hJd
           go_wp2
           go_roundw
           case rel => first | exact ⟨n + 1, by omega, by omega, by go_num, hJ2⟩ | ((repeat apply Exists.intro); refine ⟨?_, rfl⟩; exact ⟨n + 1, by omega, by omega, by go_num, hJ2⟩)
           case measure => simp [intOf]; omega
     · obtain rfl : n = N + 1 := by omega
       rw [Nat.add_sub_cancel] at hJ
       have hNd := HNe.out
       by_cases h1 : N + 1 <= m - ar.length
       · have d1 : ((N + 1 : Nat) : Int) <= (m : Int) - (ar.length : Int) := by omega
         have d2 : decide (((N + 1 : Nat) : Int) <= (m : Int) - (ar.length : Int)) = true := by simp; omega
         have d2' : decide ((N : Int) + 1 <= (m : Int) - (ar.length : Int)) = true := by simp; omega
         have d3 : decide (((N + 1 : Nat) : Int) < (Z a : Int)) = false := by simp; omega
         have d4 : decide (N + 1 < Z a) = false := by simp; omega
         have d6 : decide ((N : Int) + 1 < (Z a : Int)) = false := by simp; omega
         clear hNd
         go_wp2
         refine wp_region_still_lit (by kernel_rfl) (by kernel_rfl) ?_
         change wpStill _ _ wr.drew (fun a' => Exit.then _ _ Exit.normal a' wr.drew) _ _
         have hJd := hJ.below ((Below.refl _ _).drew)
         clear hJ
         generalize wr.drew = w1 at *
         repeat still_step
         refine wpStill_nil ?_
         try rw [d4]
         go_wp2
         go_ret
         exact ⟨hJd.ret, hJd.b⟩
       · have d2 : decide (((N + 1 : Nat) : Int) <= (m : Int) - (ar.length : Int)) = false := by simp; omega
         have d2' : decide ((N : Int) + 1 <= (m : Int) - (ar.length : Int)) = false := by simp; omega
         clear hNd
         go_wp2
         refine wp_region_still_lit (by kernel_rfl) (by kernel_rfl) ?_
         change wpStill _ _ wr.drew (fun a' => Exit.then _ _ Exit.normal a' wr.drew) _ _
         have hJd := hJ.below ((Below.refl _ _).drew)
         clear hJ
         generalize wr.drew = w1 at *
         repeat still_step
         refine wpStill_nil ?_
         go_wp2
         go_ret
         exact ⟨hJd.ret, hJd.b⟩
end Go.EvPart
