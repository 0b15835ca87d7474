/-
  The keys of a pipeline, sorted, as the evaluator wants them.
-/
import Derived.Test.YthbmgkbfmddhnaaGreatDoorLay
import Derived.WalkKit
import Derived.WalkSpells
import Derived.WalkLawsBesides
import Derived.Deep.QuietTactic
import Derived.BigQuiet
import Derived.Test.YthbmgkbfmddhnaaGreatDoorTab
set_option linter.all false
namespace Go.Proofs
open Go.RowKit Go.Maps Go.Sort Go.Shelf

set_option maxRecDepth 100000 in
set_option maxHeartbeats 400000 in
theorem Tryz.zero_no (B o b : Nat) (w : World) (h : w.cell? ⟨B, o + 8, none⟩ = some (.map (some b))) :
    Calls Tryz.prog 25 #[.pointer (some ⟨B, o, none⟩)] w fun e w' => e = .returned (.bool false) ∧ w = w' := by
  have e1 := fun (w : World) (r : Option Nat) => run_eql_map_nil (P := Tryz.prog) w 32 _ _ r Tryz.underlying32
  go_enter Tryz.func25, Tryz.ntmps25
  go_wp2
  go_ret
  exact ⟨rfl, rfl⟩

theorem Tryz.sortsA (m : Nat) : AnyZI.SortsIn Tryz.prog Tryz.sortedA_ren Fence.wide m :=
  ⟨fun blk off cap ss W hH hblk hsz => callsIn_wide.2 (AnyM.slices_Sort_int Tryz.sortA blk off cap ss W hH hblk hsz),
   fun p cap W => callsIn_wide.2 (AnyM.slices_Sort_int_none Tryz.sortA p cap W)⟩

set_option maxRecDepth 100000 in
set_option maxHeartbeats 1000000 in
theorem Tryz.keys_any {H : Type} (B o b nn : Nat) (D0 : DataW H) (R : Value → Option (DataW H × List MemPlace)) (w : World) (hcell : w.cell? ⟨B, o + 8, none⟩ = some (.map (some b))) (hown : w.ownsMap Tryz.prog 3 R b nn D0) (hmax : Maps.size D0 ≤ maxLen) (hbytes : Maps.size D0 * 8 ≤ 140737488355328) :
    Calls Tryz.prog 12 #[.pointer (some ⟨B, o, none⟩)] w fun e w' => ∃ (v : Value) (ss : List Int), e = .returned v ∧ ss.Perm (intKeys D0) ∧
      w'.ownsRow w.heap.size 3 1 v ss.length ((ss.mergeSort (fun x y => decide (x ≤ y))).map encZ) ∧ (v = .slice none 0 0 ↔ ss = []) ∧ Below w.heap.size w w' := by
  refine (callsIn_wide (n := 6)).1 ?_
  have hbl := hown.lt
  have hseq : SeqGives Fence.wide 2 Tryz.prog 69 #[.pointer (some ⟨w.heap.size, 0, none⟩)] encZ (fun ss => ss.Perm (intKeys D0)) (Maps.size D0) (w.alloc (.cells #[.map (some b)] 32)) :=
    AnyZI.keys_gives (ρ := Tryz.keysA_ren) { Tryz.keysA with } Fence.wide _ trivial rfl (by omega) w.heap.size b nn D0 _ (by simp) (by simp) (by
      obtain ⟨es, clock, hb, Ft, hs, hD⟩ := hown
      exact ⟨es, clock, (Below.heap_alloc _ _ b hbl).trans hb, Ft, hs, hD⟩)
  have cK : ∀ mb W, CallsIn Fence.wide 5 Tryz.prog 40 #[.map mb] W fun e w' => e = .returned (.func (.func 69) #[] #[.pointer (some ⟨W.heap.size, 0, none⟩)]) ∧ w' = W.alloc (.cells #[.map mb] 32) := fun mb W => AnyZI.keys_in Tryz.keysA Fence.wide 5 trivial rfl mb W
  have cS := AnyZI.sorted_in Tryz.sortedA Fence.wide 5 trivial trivial trivial trivial rfl (by omega) (Tryz.sortsA _) (enters_of Tryz.func68 (by kernel_rfl) rfl) 69 #[.pointer (some ⟨w.heap.size, 0, none⟩)] trivial (enters_of Tryz.func69 (by kernel_rfl) rfl) _ _ hmax hbytes _ hseq
  change CallsIn _ _ Tryz.prog 39 _ _ _ at cS
  have hfK : Fence.wide.fn 40 := trivial
  have hfS : Fence.wide.fn 39 := trivial
  have hfZ : Fence.wide.fn 25 := trivial
  have cZ := (callsIn_wide (n := 5)).2 (Tryz.zero_no B o b w hcell)
  refine callsIn_of_wp Tryz.func12 rfl trivial ?_ rfl
  simp only [Tryz.ntmps12, List.size_toArray, List.length_cons, List.length_nil, Nat.reduceAdd, Nat.reduceSub, Array.replicate_succ, Array.replicate_zero, List.push_toArray, List.append_toArray, List.nil_append, List.cons_append]
  gi_wp2_with (first
    | (gi_at_call 25; refine cZ.mono ?_; rintro e w' ⟨rfl, rfl⟩)
    | (gi_at_call 40; refine (cK _ _).mono ?_; rintro e w' ⟨rfl, rfl⟩)
    | (gi_at_call 39; refine cS.mono ?_; rintro e w' ⟨v, ss, rfl, hS, hrow, hnil, hb⟩))
  go_ret
  exact ⟨v, ss, rfl, hS, ownsRow_base_a hrow (by simp), hnil, ((Below.refl _ w).alloc (Nat.le_refl _) _).trans (hb.mono (by simp))⟩
end Go.Proofs

namespace Go.EvNil
open Go Go.Ev Go.Proofs Go.RowKit Go.Maps Go.WideElems

theorem insN_perm (n : Nat) : ∀ l, (insN n l).Perm (n :: l)
  | [] => .refl _
  | m :: l => by
    unfold insN
    cases Nat.ble n m with
    | true => exact .refl _
    | false => exact ((insN_perm n l).cons m).trans (.swap n m l)
theorem sortN_perm : ∀ l, (sortN l).Perm l
  | [] => .refl _
  | n :: l => (insN_perm n _).trans ((sortN_perm l).cons n)
theorem insN_sorted (n : Nat) : ∀ l : List Nat, l.Pairwise (· ≤ ·) → (insN n l).Pairwise (· ≤ ·)
  | [], _ => by simp [insN]
  | m :: l, h => by
    unfold insN
    cases hb : Nat.ble n m with
    | true =>
      have hle := Nat.le_of_ble_eq_true hb
      simp only [cond_true]
      refine List.pairwise_cons.2 ⟨fun x hx => ?_, h⟩
      rcases List.mem_cons.1 hx with rfl | hx
      · exact hle
      · exact Nat.le_trans hle ((List.pairwise_cons.1 h).1 x hx)
    | false =>
      have hlt : ¬ n ≤ m := fun hle => by rw [Nat.ble_eq_true_of_le hle] at hb; cases hb
      simp only [cond_false]
      refine List.pairwise_cons.2 ⟨fun x hx => ?_, insN_sorted n l (List.pairwise_cons.1 h).2⟩
      rcases List.mem_cons.1 ((insN_perm n l).mem_iff.1 hx) with rfl | hx
      · omega
      · exact (List.pairwise_cons.1 h).1 x hx
theorem sortN_sorted : ∀ l, (sortN l).Pairwise (· ≤ ·)
  | [] => List.Pairwise.nil
  | n :: l => insN_sorted n _ (sortN_sorted l)

theorem sortN_eq {ks : List Nat} {ss : List Int} (h : ss.Perm (ks.map Int.ofNat)) : ss.mergeSort leI = (sortN ks).map Int.ofNat := by
  have tr : ∀ a b c : Int, leI a b = true → leI b c = true → leI a c = true := fun a b c h1 h2 => by simp only [leI, decide_eq_true_eq] at *; exact Int.le_trans h1 h2
  have to : ∀ a b : Int, (leI a b || leI b a) = true := fun a b => by simp only [leI, Bool.or_eq_true, decide_eq_true_eq]; exact Int.le_total a b
  refine List.Perm.eq_of_pairwise (le := fun a b => leI a b = true) (fun a b _ _ h1 h2 => ?_) (List.pairwise_mergeSort tr to ss) ?_ (((List.mergeSort_perm ss leI).trans h).trans ((sortN_perm ks).map Int.ofNat).symm)
  · simp only [leI, decide_eq_true_eq] at h1 h2
    exact Int.le_antisymm h1 h2
  · refine List.pairwise_map.2 ((sortN_sorted ks).imp fun {a b} hab => ?_)
    simp only [leI, decide_eq_true_eq]
    exact Int.ofNat_le.2 hab

theorem nodupN_ok : ∀ {l : List Nat}, nodupN l = true → l.Nodup
  | [], _ => List.nodup_nil
  | a :: l, h => by
    simp only [nodupN, Bool.and_eq_true, Bool.not_eq_true'] at h
    refine List.nodup_cons.2 ⟨fun hm => ?_, nodupN_ok h.2⟩
    have := List.any_eq_false.1 h.1 a hm
    simp at this

theorem ents_keys {ρ : Rho} {σ : Sig} : ∀ {es : List (AV × AV × Nat)} {ms : List MapEntry} {ks : List Nat}, entsRel ρ σ es ms → keyNats es = some ks →
    ms.map (·.key) = ks.map (fun n => Value.int .i64 (Int.ofNat n)) ∧ ms.map (·.born) = es.map (·.2.2) ∧ ∀ n ∈ ks, n ≤ 9223372036854775807
  | [], [], ks, _, hk => by simp [keyNats] at hk; subst hk; simp
  | e :: es, m :: ms, ks, ⟨⟨h1, h2, h3⟩, h4⟩, hk => by
    obtain ⟨k, v, b⟩ := e
    unfold keyNats at hk
    split at hk
    · rename_i heq; cases heq
    · rename_i n _ _ l heq
      simp only [List.cons.injEq, Prod.mk.injEq] at heq
      obtain ⟨⟨rfl, rfl, rfl⟩, rfl⟩ := heq
      cases hb : Nat.ble n 9223372036854775807 with
      | false => rw [hb] at hk; cases hk
      | true =>
        rw [hb] at hk
        simp only [cond_true] at hk
        split at hk
        · rename_i r hr
          cases hk
          obtain ⟨g1, g2, g3⟩ := ents_keys h4 hr
          simp only [conc, Option.some.injEq] at h1
          refine ⟨by simp [g1, ← h1], by simp [g2, h3], fun x hx => ?_⟩
          rcases List.mem_cons.1 hx with rfl | hx
          · exact Nat.le_of_ble_eq_true hb
          · exact g3 x hx
        · cases hk
    · cases hk
  | [], _ :: _, _, h, _ => h.elim
  | _ :: _, [], _, h, _ => h.elim

def R0 (_ : Value) : Option (DataW Unit × List MemPlace) := some (.nil, [])

theorem keysV_ok {ρ : Rho} : FnOk Tryz.prog ρ 12 keysV := by
  intro σ args h v h' cs w hg hargs hH hv
  right
  refine ⟨enters Tryz.func12 (by decide) rfl, ?_⟩
  unfold keysV at hv
  split at hv
  · rename_i b o
    split at hv
    · rename_i elem vs tight wr hb
      split at hv
      · rename_i m hm
        split at hv
        · rename_i es clock hmap
          split at hv
          · rename_i ks hks
            cases hc : (Nat.blt h.nx maxT && Nat.ble 1 ks.length && Nat.ble ks.length 1000 && nodupN ks && bornOk es clock) with
            | false => rw [hc] at hv; cases hv
            | true =>
              rw [hc] at hv
              simp only [cond_true, Option.some.injEq, Prod.mk.injEq] at hv
              obtain ⟨rfl, rfl⟩ := hv
              simp only [Bool.and_eq_true, bornOk] at hc
              obtain ⟨⟨⟨⟨c1, c2⟩, c3⟩, c4⟩, c5, c6⟩ := hc
              have c1 : h.nx < maxT := by simpa using c1
              have c2 := Nat.le_of_ble_eq_true c2
              have c3 := Nat.le_of_ble_eq_true c3
              obtain ⟨c, hcv, rfl⟩ := concL_one hargs
              obtain ⟨p, hp, rfl⟩ := conc_ptr hcv
              obtain ⟨p', arr, fz, us, hp', h1, h2, h3, h4, h5, h6, h7, h8⟩ := hH.cells hb
              obtain rfl : p = p' := Option.some.inj (hp.symm.trans hp')
              have hlt : o + 8 < vs.length := (List.getElem?_eq_some_iff.1 hm).1
              obtain ⟨u, hu1, hu2⟩ := concL_get h5 hm
              simp only [conc, Option.map_eq_some_iff] at hu2
              obtain ⟨q, hq, rfl⟩ := hu2
              have hcell : w.cell? ⟨p.blk, p.del + o + 8, none⟩ = some (.map (some q.blk)) := by rw [Nat.add_assoc, h6 (o + 8) hlt, hu1]
              obtain ⟨q', hq', hd, ms, hobj, hent⟩ := hH.blk m _ hmap
              obtain rfl : q = q' := Option.some.inj (hq.symm.trans hq')
              obtain ⟨k1, k2, k3⟩ := ents_keys hent hks
              have hsz : ms.toList.length = ks.length := by have := congrArg List.length k1; simpa using this
              have hread : ∀ x ∈ ms.toList, ∃ n ∈ ks, rd Tryz.prog 3 R0 x = some (.int .i64 (Int.ofNat n), .nil) := fun x hx => by
                have : x.key ∈ ms.toList.map (·.key) := List.mem_map_of_mem hx
                rw [k1, List.mem_map] at this
                obtain ⟨n, hn, he⟩ := this
                refine ⟨n, hn, ?_⟩
                have hw : (Lit.int .i64 (Int.ofNat n)).wf = true := by
                  have := k3 n hn
                  simp [Lit.wf, IntKind.min, IntKind.max, IntKind.signed, IntKind.bits]
                  omega
                unfold rd
                rw [← he, keyOf_int_mk Tryz.underlying3 hw]
                rfl
              have hown : w.ownsMap Tryz.prog 3 R0 q.blk ms.size (.map ((ms.toList.map (rg Tryz.prog 3 R0)).foldr DataW.insert [])) := by
                refine ⟨ms, clock, hobj, ⟨?_, ⟨fun x hx => ?_, ?_, ?_⟩, fun x hx => ?_⟩, Nat.le_refl _, rfl⟩
                · have : ms.size = ks.length := by simpa using hsz
                  unfold maxLen; omega
                · have hx' : x.born ∈ ms.toList.map (·.born) := List.mem_map_of_mem hx
                  rw [k2] at hx'
                  simpa using List.all_eq_true.1 c5 _ hx'
                · rw [k2]; exact nodupN_ok c6
                · rw [k1]
                  exact List.Pairwise.map _ (fun a b hab e => hab (by injection e with _ e2; exact Int.ofNat.inj e2)) (nodupN_ok c4)
                · obtain ⟨n, _, hn⟩ := hread x hx
                  exact ⟨_, hn⟩
              have hkeys : (intKeys (.map ((ms.toList.map (rg Tryz.prog 3 R0)).foldr DataW.insert []))).Perm (ks.map Int.ofNat) := by
                show ((ms.toList.map (rg Tryz.prog 3 R0)).foldr DataW.insert [] |>.map fun p => intOf p.1).Perm _
                refine ((WideShapes.sorted_perm _).map _).trans ?_
                have : ∀ x ∈ ms.toList, (rg Tryz.prog 3 R0 x).1 = .int .i64 (match x.key with | .int _ n => n | _ => 0) := fun x hx => by
                  obtain ⟨n, hn, e⟩ := hread x hx
                  have hk : x.key ∈ ms.toList.map (·.key) := List.mem_map_of_mem hx
                  have e2 := rd_key e
                  obtain ⟨y, hy, hl, _⟩ := keyOf_i64 Tryz.underlying3 e2
                  simp only at hl
                  rw [hy]
                  simp only [rg, e, Option.getD_some]
                  exact hl
                have e3 : (ms.toList.map (rg Tryz.prog 3 R0)).map (fun p => intOf p.1) = (ms.toList.map (·.key)).map fun k => match k with | .int _ n => n | _ => 0 := by
                  rw [List.map_map, List.map_map]
                  refine List.map_congr_left fun x hx => ?_
                  simp only [Function.comp, this x hx, intOf]
                rw [e3, k1, List.map_map]
                exact .of_eq (by simp [Function.comp])
              have hsize : Maps.size (.map ((ms.toList.map (rg Tryz.prog 3 R0)).foldr DataW.insert [])) = ks.length := by
                have := hkeys.length_eq
                simpa [intKeys, Maps.size] using this
              have hcall := Tryz.keys_any (H := Unit) p.blk (p.del + o) q.blk ms.size _ R0 w hcell hown (by rw [hsize]; unfold maxLen; omega) (by rw [hsize]; omega)
              refine Ret.of (hcall.mono ?_)
              rintro e w' ⟨r, ss, rfl, hperm, hrow, hnil, hb'⟩
              refine ⟨r, rfl, ?_⟩
              have hp2 := hperm.trans hkeys
              have hlen : ss.length = ks.length := by simpa using hp2.length_eq
              have hsort := sortN_eq hp2
              rw [hsort] at hrow
              obtain ⟨r1, r2⟩ := hrow
              rcases r2 with ⟨_, hz⟩ | ⟨g, cap, cur, rfl, hge, hcur, hle, hcap, hcs, htake⟩
              · omega
              · have hc1 : ∀ (σ' : Sig) (l : List Nat), concL ρ σ' (l.map fun n => AV.int .i64 (.ofNat n)) = some (l.map fun n => Value.int .i64 (Int.ofNat n)) := fun σ' l => by
                  induction l with
                  | nil => rfl
                  | cons a l ih => simp only [List.map_cons, concL, conc, ih]
                have e4 : cur.toList.take ks.length = (sortN ks).map fun n => Value.int .i64 (Int.ofNat n) := by
                  rw [← hlen]
                  rw [Nat.mul_one, List.map_map] at htake
                  exact htake
                have hsz2 : cur.size = cap := by simpa using hcs
                have hls : (sortN ks).length = ks.length := (sortN_perm ks).length_eq
                have hO : ORel ρ (updS σ h.nx ⟨g, 0, cap⟩) ⟨g, 0, cap⟩ (some (.cells cur 3 (0, 0))) (.cells 3 ((sortN ks).map fun n => .int .i64 (.ofNat n)) false true) :=
                  ⟨cur, (0, 0), rfl, by simp [hsz2], by simp only [List.length_map]; omega, (fun e => by cases e), ⟨_, hc1 _ _, fun i hi => by
                    simp only [List.length_map] at hi
                    rw [← e4, List.getElem?_take, if_pos (by omega)]
                    simp⟩, fun _ i _ _ => by simp⟩
                obtain ⟨N1, N2⟩ := hH.newAt hb' hge hcur c1 hO
                exact ⟨_, by simp [conc, updS, capN, hlen], N1, N2⟩
          · cases hv
        · cases hv
      · cases hv
    · cases hv
  · cases hv
end Go.EvNil
