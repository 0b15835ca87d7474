/-
  The contracts of Types, fits and Check for the grammars that Made makes.
-/
import Derived.Test.YthbmgkbfmddhnaaGreatDoorSan
import Derived.Test.YthbmgkbfmddhnaaGreatDoorTy0
import Derived.Test.YthbmgkbfmddhnaaGreatDoorTy1
import Derived.Test.YthbmgkbfmddhnaaGreatDoorTy2
import Derived.Test.YthbmgkbfmddhnaaGreatDoorTy3
import Derived.Test.YthbmgkbfmddhnaaGreatDoorTy4
import Derived.Test.YthbmgkbfmddhnaaGreatDoorTy5
import Derived.Test.YthbmgkbfmddhnaaGreatDoorWalkE
import Derived.Deep.CutBlock
set_option linter.all false
namespace Go.EvNil
open Go Go.Ev Go.Proofs Go.RowKit

theorem ty_all (n : Nat) : tyAll (sm n) = true := by
  unfold sm
  split
  · exact ty0
  split
  · exact ty1
  split
  · exact ty2
  split
  · exact ty3
  split
  · exact ty4
  · exact ty5

/-- The lookup tables that Base(nil) makes. -/
def BaseOk (w : World) (v : Value) : Prop := ∃ (ρ : Rho) (σ : Sig) (h : H), ρ.loops = loopsOf Tryz.prog ∧ GOk Tryz.prog σ ∧ HRel ρ σ h w ∧ h.nx = 21 ∧ roFrom h baseRo = true ∧ conc ρ σ baseAV = some v
theorem BaseOk.below {w w' : World} {v : Value} (h : BaseOk w v) (hb : Below w.heap.size w w') : BaseOk w' v := by
  obtain ⟨ρ, σ, h, h1, h2, h3, h4⟩ := h
  exact ⟨ρ, σ, h, h1, h2, h3.below hb, h4⟩

theorem conc_avS (ρ : Rho) (σ : Sig) (s : ByteArray) : conc ρ σ (avS s) = some (.string s) := by
  have h1 : (s.data.toList.map UInt8.toNat).all (fun n => decide (n < 256)) = true := by
    simp only [List.all_eq_true, List.mem_map, decide_eq_true_eq]
    rintro x ⟨c, _, rfl⟩
    exact UInt8.toNat_lt c
  have h2 : bytesOf (s.data.toList.map UInt8.toNat) = s := by
    cases s with
    | mk d =>
      simp only [bytesOf, List.map_map]
      have : (UInt8.ofNat ∘ UInt8.toNat) = id := by funext x; simp
      simp [this]
  simp only [avS, conc]
  rw [if_pos h1, h2]

def colsV : List (ByteArray × Nat) → List Value
  | [] => []
  | c :: l => .string c.1 :: .int .i64 c.2 :: colsV l
theorem concL_cols (ρ : Rho) (σ : Sig) : ∀ cs, concL ρ σ (colsAV cs) = some (colsV cs)
  | [] => by simp [colsAV, colsV, concL]
  | c :: l => by simp [colsAV, colsV, concL, conc_avS, conc, concL_cols ρ σ l]
theorem cols_prefix {arr : Array Value} : ∀ (cs : List (ByteArray × Nat)) (o : Nat), (∀ i (hi : i < cs.length), arr[o + i * 2]? = some (.string cs[i].1) ∧ arr[o + i * 2 + 1]? = some (.int .i64 cs[i].2)) → ∀ i, i < (colsV cs).length → arr[o + i]? = (colsV cs)[i]?
  | [], o, h, i, hi => by simp [colsV] at hi
  | c :: l, o, h, i, hi => by
    match i with
    | 0 => have h0 := (h 0 (Nat.succ_pos _)).1; simp only [Nat.zero_mul, Nat.add_zero] at h0 ⊢; exact h0
    | 1 => have h0 := (h 0 (Nat.succ_pos _)).2; simp only [Nat.zero_mul, Nat.add_zero] at h0 ⊢; exact h0
    | i + 2 =>
      have ih := cols_prefix l (o + 2) (fun j hj => by
        have := h (j + 1) (by simpa using hj)
        simp only [List.getElem_cons_succ] at this
        rw [show o + 2 + j * 2 = o + (j + 1) * 2 by omega]
        exact this) i (by simp [colsV] at hi; omega)
      rw [show o + (i + 2) = o + 2 + i by omega, ih]
      simp [colsV]
theorem colsAV_length : ∀ cs, (colsAV cs).length = (colsV cs).length
  | [] => rfl
  | c :: l => by simp [colsAV, colsV, colsAV_length l]

/-- What Types returns: the kinds of the arguments can be read. -/
def RetTy (e : Ending) (w' : World) : Prop := ∃ aa al ac k er, e = .returned (.tuple #[.slice aa al ac, .int .i64 k, .int .i64 er]) ∧ Ints w' aa al

theorem intsOk_ints {ρ : Rho} {σ : Sig} {h : H} {w : World} {a : AV} {c : Value} (hi : intsOk h a = true) (hH : HRel ρ σ h w) (hc : conc ρ σ a = some c) : ∃ aa al ac, c = .slice aa al ac ∧ Ints w aa al := by
  unfold intsOk at hi
  split at hi
  · simp only [conc, Option.some.injEq] at hc
    subst hc
    exact ⟨none, 0, 0, rfl, by omega, fun h => by omega⟩
  · rename_i b l cap
    simp only [conc, Option.map_eq_some_iff] at hc
    obtain ⟨p, hp, rfl⟩ := hc
    simp only [Bool.and_eq_true] at hi
    obtain ⟨h1, h2⟩ := hi
    have h1 : l ≤ 100 := by simpa using h1
    split at h2
    · rename_i e vs t wr hb
      simp only [Bool.and_eq_true] at h2
      obtain ⟨h2, h3⟩ := h2
      have h2 : l ≤ vs.length := by simpa using h2
      obtain ⟨q, arr, fz, cs, hq, g1, g2, g3, g4, g5, g6, _⟩ := hH.cells hb
      obtain rfl : p = q := Option.some.inj (hp.symm.trans hq)
      refine ⟨_, _, _, rfl, by omega, fun _ => ⟨p.blk, p.del + 0, rfl, (Array.getElem?_eq_some_iff.1 g1).1, fun i hi => ?_⟩⟩
      have hlt : i < vs.length := by omega
      have hv : isI64 vs[i] = true := List.all_eq_true.1 h3 _ (by
        rw [List.mem_iff_getElem?]
        exact ⟨i, by rw [List.getElem?_take, if_pos hi]; simp [hlt]⟩)
      obtain ⟨x, hx, hcx⟩ := concL_get g5 (i := i) (v := vs[i]) (by simp [hlt])
      have hcell := g6 i hlt
      rw [hx] at hcell
      generalize vs[i] = u at hv hcx
      cases u with
      | int k n =>
        cases k with
        | i64 =>
          simp only [conc, Option.some.injEq] at hcx
          subst hcx
          exact ⟨n, by rw [Nat.add_zero]; exact hcell⟩
        | _ => cases hv
      | _ => cases hv
    · cases h2
  · cases hi

theorem ext98 : ext 98 = none := by kernel_rfl
theorem ext9 : ext 9 = none := by kernel_rfl
theorem ext15 : ext 15 = none := by kernel_rfl
theorem smallB : small baseRo = true := by kernel_rfl

def no88 (l : Blks) : Bool := l.all fun p => match p.2 with | .ro e _ => !(Nat.beq e 88) | _ => false
theorem no88B : no88 baseRo = true := by kernel_rfl

theorem small_app {a b : Blks} (h1 : small a = true) (h2 : small b = true) : small (a ++ b) = true := by
  simp only [small, List.all_append, Bool.and_eq_true]
  exact ⟨h1, h2⟩

theorem types_any (S : Sample) (hty : tyAll S = true) (r : Rl) (hr : r ∈ S.rules) (w : World) (bv : Value) (ca : Option Addr) (cc : Nat) (hB : BaseOk w bv) (hC : ColsAt w ca S.cols) :
    Calls Tryz.prog 98 #[.string r.op, .string r.pa, bv, .slice ca S.cols.length cc] w fun e w' => RetTy e w' ∧ Below w.heap.size w w' := by
  obtain ⟨ρ, σ, h, hρ, hg, hH, hnx, hro, hbv⟩ := hB
  obtain ⟨cb, o, arr, fz, rfl, hblk, hc⟩ := hC
  have hfr : ∀ b, 21 ≤ b → σ b = none := fun b hb => hH.fresh b (by omega)
  have hne : ∀ b p, σ b = some p → b ≠ 21 := fun b p hb e => by rw [e, hfr 21 (by omega)] at hb; cases hb
  obtain ⟨σ2, hσ2⟩ : ∃ σ2 : Sig, σ2 = fun b => if b = 21 then some ⟨cb, o, 2 * cc⟩ else σ b := ⟨_, rfl⟩
  have hx : Ext σ σ2 := fun b p hb => by rw [hσ2]; simp only; rw [if_neg (hne b p hb)]; exact hb
  have h21 : σ2 21 = some ⟨cb, o, 2 * cc⟩ := by rw [hσ2]; simp
  have hsm : small (tyBlks S) = true := small_app smallB (by simp [small, maxT])
  have har : allRo (tyBlks S) = true := by
    have h1 : allRo baseRo = true := by kernel_rfl
    simp only [allRo] at h1
    simp only [allRo, tyBlks, List.all_append, Bool.and_eq_true]
    exact ⟨h1, by simp [ABlk.isRo]⟩
  have base : ∀ b x, (b, x) ∈ baseRo → ∃ p e vs, x = .ro e vs ∧ σ b = some p ∧ e ≠ 88 ∧ (∃ arr fz, w.heap[p.blk]? = some (.cells arr e fz)) ∧ ORel (ρ.at w) σ p w.heap[p.blk]? (.ro e vs) := fun b x hm => by
    obtain ⟨e, vs, t, wr, rfl, hgt⟩ := roFrom_mem hro hm
    obtain ⟨p, hp, hO⟩ := hH.blk b _ hgt
    have h88 := List.all_eq_true.1 no88B _ hm
    refine ⟨p, e, vs, rfl, hp, fun e1 => ?_, ?_, ro_at hO⟩
    · subst e1; simp at h88
    · obtain ⟨arr, fz, h1, _⟩ := hO; exact ⟨arr, fz, h1⟩
  have mem : ∀ b x, (putL ⟨.e, 22⟩ (tyBlks S)).get b = some x → (b, x) ∈ baseRo ∨ (b = 21 ∧ x = .ro 88 (colsAV S.cols)) := fun b x hb => by
    rcases List.mem_append.1 (putE_get hsm hb) with h1 | h1
    · exact .inl h1
    · simp only [List.mem_singleton, Prod.mk.injEq] at h1; exact .inr h1
  have hcont : contOf w cb = arr := by simp [contOf, hblk]
  have hfz : fzOf w cb = fz := by simp [fzOf, hblk]
  have hH2 : HRel (ρ.at w) σ2 (putL ⟨.e, 22⟩ (tyBlks S)) w := by
    refine ⟨fun b x hb => ?_, fun b b' x x' p p' hb hb' hp hp' hbb => ?_, fun b hb => ?_⟩
    · rcases mem b x hb with h1 | ⟨rfl, rfl⟩
      · obtain ⟨p, e, vs, rfl, hp, _, _, hO⟩ := base b x h1
        exact ⟨p, hx b p hp, hO.ext hx⟩
      · refine ⟨_, h21, colsV S.cols, concL_cols _ _ _, ?_, fun i hi => ?_⟩
        · show w.heap[cb]? = some (Obj.cells (contOf w cb) 88 (fzOf w cb))
          rw [hcont, hfz]; exact hblk
        · show (contOf w cb)[o + i]? = _
          rw [hcont]
          exact cols_prefix S.cols o hc i (by rw [← colsAV_length]; exact hi)
    · have mixed : ∀ b x p, (b, x) ∈ baseRo → σ2 b = some p → p.blk ≠ cb := fun b x p h1 h2 e => by
        obtain ⟨q, e1, vs, _, hq, h88, ⟨arr', fz', hw⟩, _⟩ := base b x h1
        obtain rfl : p = q := Option.some.inj (h2.symm.trans (hx b q hq))
        rw [e, hblk] at hw
        cases hw
        exact h88 rfl
      rcases mem b x hb with h1 | ⟨rfl, rfl⟩ <;> rcases mem b' x' hb' with h2 | ⟨rfl, rfl⟩
      · obtain ⟨e, vs, t, wr, rfl, hgt⟩ := roFrom_mem hro h1
        obtain ⟨e', vs', t', wr', rfl, hgt'⟩ := roFrom_mem hro h2
        obtain ⟨q, hq, _⟩ := hH.blk b _ hgt
        obtain ⟨q', hq', _⟩ := hH.blk b' _ hgt'
        obtain rfl : p = q := Option.some.inj (hp.symm.trans (hx b q hq))
        obtain rfl : p' = q' := Option.some.inj (hp'.symm.trans (hx b' q' hq'))
        exact hH.inj b b' _ _ p p' hgt hgt' hq hq' hbb
      · rw [h21] at hp'; cases hp'; exact mixed b x p h1 hp
      · rw [h21] at hp; cases hp; exact Ne.symm (mixed b' x' p' h2 hp')
      · exact absurd rfl hbb
    · rw [putL_nx] at hb
      have hb : 22 ≤ b := hb
      rw [hσ2]
      simp only
      rw [if_neg (by omega)]
      exact hfr b (by omega)
  have hg2 : GOk Tryz.prog σ2 := fun g hgl => by
    obtain ⟨n, hn⟩ := hg g hgl
    exact ⟨n, hx _ _ hn⟩
  have hargs : concL (ρ.at w) σ2 [avS r.op, avS r.pa, baseAV, .slice 21 0 S.cols.length 2 none] = some [.string r.op, .string r.pa, bv, .slice (some ⟨cb, o, none⟩) S.cols.length cc] := by
    have h1 : conc (ρ.at w) σ2 baseAV = some bv := by
      rw [conc_val (ρ := ρ.at w) (ρ' := ρ) rfl]; exact conc_ext hx hbv
    have h2 : conc (ρ.at w) σ2 (.slice 21 0 S.cols.length 2 none) = some (.slice (some ⟨cb, o, none⟩) S.cols.length cc) := by
      simp only [conc, h21, Option.map_some, capN]
      simp
    simp only [concL, conc_avS, h1, h2]
  have hrun := List.all_eq_true.1 hty r hr
  unfold tyOk at hrun
  split at hrun
  · rename_i a k er h' hr'
    simp only [Bool.and_eq_true] at hrun
    refine (ro_calls follows (ρ := ρ.at w) hρ (BT.find_ok tabT_ok) ext_ok ext98 hg2 hargs hsm har hH2 hr' hrun.1).mono ?_
    rintro e w' ⟨c, σ', rfl, hL⟩
    refine ⟨?_, hL.b⟩
    have hv := hL.v
    simp only [conc, Option.map_eq_some_iff] at hv
    obtain ⟨x, hx', rfl⟩ := hv
    simp only [concL] at hx'
    cases hca : conc (ρ.at w) σ' a with
    | none => rw [hca] at hx'; simp at hx'
    | some y =>
      rw [hca] at hx'
      simp only [conc, Option.some.injEq] at hx'
      subst hx'
      obtain ⟨aa, al, ac, rfl, hI⟩ := intsOk_ints hrun.2 hL.h hca
      exact ⟨aa, al, ac, k, er, rfl, hI⟩
  · cases hrun

/-- Base(nil). -/
theorem base_nil (w : World) (hw : 13 ≤ w.heap.size) : Calls Tryz.prog 9 #[.slice none 0 0] w fun e w' => (∃ v, e = .returned v ∧ BaseOk w' v) ∧ Below w.heap.size w w' := by
  obtain ⟨ρ, hρ, _⟩ := rho_of (loopsOf Tryz.prog) (fun _ => (0, 0)) (fun _ => #[])
  have hg : GOk Tryz.prog sig0 := fun g hg => ⟨0, by
    have : Tryz.prog.globals.size = 13 := by kernel_rfl
    rw [this] at hg
    simp [sig0, hg]⟩
  have hH : HRel ρ sig0 (putL ⟨.e, 13⟩ []) w := by
    refine ⟨fun b x hb => ?_, fun b b' x x' p p' hb => ?_, fun b hb => ?_⟩
    · simp [putL, H.get, T.get] at hb
    · simp [putL, H.get, T.get] at hb
    · have hb : 13 ≤ b := hb
      unfold sig0
      rw [if_neg (by omega)]
  have hrun := base_run
  unfold baseChk at hrun
  split at hrun
  · rename_i v h' hr
    simp only [Bool.and_eq_true] at hrun
    obtain ⟨⟨h1, h2⟩, h3⟩ := hrun
    have h1 := AV.beq_eq h1
    subst h1
    refine (ro_calls follows (ρ := ρ) hρ (BT.find_ok tabT_ok) ext_ok ext9 hg (args := [.nilslice]) (cs := [.slice none 0 0]) rfl (l := []) rfl rfl hH hr rfl).mono ?_
    rintro e w' ⟨c, σ', rfl, hL⟩
    exact ⟨⟨c, rfl, ρ, σ', h', hρ, fun g hgl => by obtain ⟨n, hn⟩ := hg g hgl; exact ⟨n, hL.ext _ _ hn⟩, hL.h, Nat.eq_of_beq_eq_true h2, h3, hL.v⟩, hL.b⟩
  · cases hrun
end Go.EvNil

namespace Go.EvNil
open Go Go.Proofs Go.RowKit

/-- A number comes back. -/
def RetI (e : Ending) : Prop := ∃ n : Int, e = .returned (.int .i64 n)

set_option maxRecDepth 100000 in
set_option maxHeartbeats 4000000 in
theorem fits_any (S : Sample) (hS : SOk S) (hty : tyAll S = true) (w : World) (M : Nat → Nat) (rn : Nat) (ca sa ra : Option Addr) (cc sc rc : Nat) (hC : ColsAt w ca S.cols) (hY : SymsAt w sa S.syms M) (r : Rl) (hr : r ∈ S.rules) (aa : Option Addr) (ac : Nat) (hA : ArgsAt w aa r.args) (bv : Value) (hB : BaseOk w bv) :
    Calls Tryz.prog 51 #[.agg #[.string S.nm, .int .i64 S.ver, .slice ca S.cols.length cc, .slice sa S.syms.length sc, .slice ra rn rc, .int .i64 S.st], .agg #[.int .i64 r.h, .string r.op, .string r.pa, .slice aa r.args.length ac], bv] w fun e w' => RetI e ∧ Below w.heap.size w w' := by
  have HB2 : ∀ o1 o2, Below w.heap.size w ((w.alloc o1).alloc o2) := fun o1 o2 => ((Below.refl _ _).alloc (Nat.le_refl _) _).alloc (by simp) _
  have HT := Lib.hid (fun W (hb : Below w.heap.size w W) => types_any S hty r hr W bv ca cc (hB.below hb) (hC.below hb))
  obtain ⟨hh, hal, harg, _, _⟩ := hS.rule r hr
  have hsn := hS.syms
  go_enter Tryz.func51, Tryz.ntmps51
  go_upto_region 2 with (go_at_call 98; refine (HT.out _ (HB2 _ _)).mono ?_; rintro e w2 ⟨⟨ta, tl, tc, kd, er, rfl, hI⟩, hb2⟩)
  have HX : Boxes w2 w.heap.size (w.heap.size + 1) #[.string S.nm, .int .i64 S.ver, .slice ca S.cols.length cc, .slice sa S.syms.length sc, .slice ra rn rc, .int .i64 S.st] #[.int .i64 r.h, .string r.op, .string r.pa, .slice aa r.args.length ac] := by
    have z := hb2.size
    simp only [sizeNew] at z
    refine ⟨by omega, by omega, ?_, ?_⟩
    · rw [hb2.block _ (by simp only [sizeNew]; omega), heapOld _ _ (by simp only [sizeNew]; omega)]
      exact heapNew w _
    · rw [hb2.block _ (by simp only [sizeNew]; omega)]
      have := heapNew (w.alloc (.cells #[.string S.nm, .int .i64 S.ver, .slice ca S.cols.length cc, .slice sa S.syms.length sc, .slice ra rn rc, .int .i64 S.st] 28)) (.cells #[.int .i64 r.h, .string r.op, .string r.pa, .slice aa r.args.length ac] 112)
      rw [sizeNew] at this
      exact this
  have HB : Below w.heap.size w w2 := (HB2 _ _).trans (hb2.mono (by simp; omega))
  clear hb2 HT HB2
  by_cases her : er = 0
  · subst her
    have r3 := cellOf (i := 3) HX.2.2.2 rfl
    have r0 := cellOf (i := 0) HX.2.2.2 rfl
    have g3 := cellOf (i := 3) HX.2.2.1 rfl
    obtain ⟨sb, so, rfl, hsb, hsc⟩ := hY.below HB
    by_cases hl : tl = r.args.length
    · subst hl
      obtain ⟨_, k1, _⟩ := hsc _ hh
      have j5 : (r.h : Int) < (S.syms.length : Int) := by omega
      have j6 : ((r.args.length : Int) != (r.args.length : Int)) = false := by simp
      by_cases hkd : ((S.syms[r.h].2 : Int) != kd) = true
      · go_wp2
        go_ret
        exact ⟨⟨_, rfl⟩, HB⟩
      · have hkd' : ((S.syms[r.h].2 : Int) != kd) = false := by simpa using hkd
        go_wp2
        go_loopw [10] (fun i wr => ∃ k : Nat, k ≤ r.args.length ∧ i = .int .i64 k ∧ Below w2.heap.size w2 wr) (fun i _ => r.args.length - (RowKit.intOf i).toNat)
        case atStart => exact ⟨0, by omega, rfl, Below.refl _ _⟩
        case round =>
          clear k1 r0 r3 g3 hsc hsb
          obtain ⟨k, hk, rfl, hbr⟩ := hrel
          have HXr := HX.below hbr
          have HBr : Below w.heap.size w wr := HB.trans (hbr.mono HB.size)
          have r3 := cellOf (i := 3) HXr.2.2.2 rfl
          have g3 := cellOf (i := 3) HXr.2.2.1 rfl
          by_cases hlt : k < r.args.length
          · obtain ⟨ab, ao, rfl, hab, hac⟩ := (hA.below HBr) (by omega)
            have a1 := hac k hlt
            obtain ⟨sb', so', hse, hsb, hsc⟩ := hY.below HBr
            cases hse
            obtain ⟨_, k1, _⟩ := hsc _ (harg _ (List.getElem_mem hlt))
            obtain ⟨tb, to1, rfl, htb, htc⟩ := (hI.below hbr).2 (by omega)
            obtain ⟨x, hx⟩ := htc k hlt
            have j1 : (0 : Int) ≤ (k : Int) := by omega
            have j2 : (k : Int) < (r.args.length : Int) := by omega
            have j3 : (k : Int) ≤ 1000 := by omega
            have j4 : (r.args[k] : Int) < (S.syms.length : Int) := by have := harg _ (List.getElem_mem hlt); omega
            have j7 : (0 : Int) ≤ (r.args[k] : Int) := by omega
            clear hac hsc htc
            go_wp2
            go_quiet (fail)
            go_wp2
            all_goals first
              | (go_roundw
                 case rel => first | exact ⟨k + 1, by omega, by go_num, hbr.trans (Drawn.below ⟨_, rfl⟩ _)⟩ | ((repeat apply Exists.intro); refine ⟨?_, rfl⟩; exact ⟨k + 1, by omega, by go_num, hbr.trans (Drawn.below ⟨_, rfl⟩ _)⟩)
                 case measure => simp [RowKit.intOf]; omega)
              | (go_ret; exact ⟨⟨_, rfl⟩, HBr.trans (Drawn.below ⟨_, rfl⟩ _)⟩)
          · go_wp2
            go_ret
            exact ⟨⟨_, rfl⟩, HBr⟩
    · have j6 : ((tl : Int) != (r.args.length : Int)) = true := by simp; omega
      go_wp2
      go_ret
      exact ⟨⟨_, rfl⟩, HB⟩
  · have her' : (er != 0) = true := by simp [her]
    go_wp2
    go_ret
    exact ⟨⟨_, rfl⟩, HB⟩
end Go.EvNil

namespace Go.EvNil
open Go Go.Proofs Go.RowKit

/-- Counts that can be read. -/
def CountsOk (S : Sample) (M : Nat → Nat) (w : World) (va : Option Addr) (n : Nat) : Prop :=
  n ≤ 12 ∧ (0 < n → ∃ (g : Nat) (bs : Nat → Nat), va = some ⟨g, 0, none⟩ ∧ g < w.heap.size ∧ ∀ s, s < n → w.cell? ⟨g, s, none⟩ = some (.slice (some ⟨bs s, 0, none⟩) (M s + 1) (M s + 1)) ∧ Nats w (bs s) (M s + 1) (tabU S.U s))
theorem CountsOk.below {S : Sample} {M : Nat → Nat} {w w' : World} {va : Option Addr} {n : Nat} (h : CountsOk S M w va n) (hb : Below w.heap.size w w') : CountsOk S M w' va n :=
  ⟨h.1, fun h0 => by
    obtain ⟨g, bs, e, hl, hc⟩ := h.2 h0
    exact ⟨g, bs, e, Nat.lt_of_lt_of_le hl hb.size, fun s hs => ⟨by rw [hb.cell hl]; exact (hc s hs).1, (hc s hs).2.below (hc s hs).2.1 hb⟩⟩⟩

theorem counts_read (S : Sample) (hS : SOk S) (w : World) (M : Nat → Nat) (hM : ∀ i, 1 ≤ M i ∧ M i ≤ 5) (rs : List Rl) (hsub : rs.Sublist S.rules) (ca sa ra : Option Addr) (cc sc rc : Nat) (hC : ColsAt w ca S.cols) (hY : SymsAt w sa S.syms M) (hR : RulesAt w ra rs) :
    Calls Tryz.prog 52 #[.agg #[.string S.nm, .int .i64 S.ver, .slice ca S.cols.length cc, .slice sa S.syms.length sc, .slice ra rs.length rc, .int .i64 S.st]] w fun e w' => (∃ va n vc, e = .returned (.slice va n vc) ∧ CountsOk S M w' va n) ∧ Below w.heap.size w w' :=
  (counts_any S hS w M hM rs hsub ca sa ra cc sc rc hC hY hR).mono fun e w' ⟨h, hb⟩ => ⟨by
    rcases h with rfl | ⟨v, bs, rfl, hO⟩
    · exact ⟨none, 0, 0, rfl, by omega, fun h => by omega⟩
    · obtain ⟨g, cap, rfl, _, hl, hc⟩ := hO.form hS.syms0
      exact ⟨_, _, _, rfl, hS.syms, fun _ => ⟨g, bs, rfl, hl, fun s hs => ⟨hc s hs, (hO.nat s hs).2⟩⟩⟩, hb⟩

/-- A block of Booleans of the call's own. -/
def Bools (w : World) (b n : Nat) : Prop := ∃ cs : Array Value, w.heap[b]? = some (.cells cs 4 (0, 0)) ∧ cs.size = n ∧ ∀ i, i < n → ∃ x, cs[i]? = some (.bool x)
theorem Bools.cell {w : World} {b n : Nat} (h : Bools w b n) {i : Nat} (hi : i < n) : ∃ x, w.cell? ⟨b, i, none⟩ = some (.bool x) := by
  obtain ⟨cs, h1, h2, h3⟩ := h
  obtain ⟨x, e⟩ := h3 i hi
  exact ⟨x, cellOf h1 e⟩
theorem Bools.free {w : World} {b n : Nat} (h : Bools w b n) (i : Nat) : w.frozen? ⟨b, i, none⟩ = false := by
  obtain ⟨cs, h1, _⟩ := h
  simp [World.frozen?, h1]
theorem Bools.set {w : World} {b n : Nat} (h : Bools w b n) (j : Nat) (x : Bool) : Bools (w.setCell ⟨b, j, none⟩ (.bool x)) b n := by
  obtain ⟨cs, h1, h2, h3⟩ := h
  refine ⟨cs.setIfInBounds j (.bool x), Joins.block_setCell h1 _, by simpa using h2, fun i hi => ?_⟩
  by_cases e : i = j
  · subst e
    exact ⟨x, by simp [h2, hi]⟩
  · obtain ⟨y, a⟩ := h3 i hi
    exact ⟨y, by rw [Array.getElem?_setIfInBounds_ne (Ne.symm e)]; exact a⟩
theorem Bools.new (w : World) (n : Nat) : Bools (w.alloc (.cells (Array.replicate n (.bool false)) 4)) w.heap.size n :=
  ⟨_, heapNew w _, by simp, fun i hi => ⟨false, by simp [hi]⟩⟩
theorem Bools.new1 (w : World) (n j : Nat) : Bools (w.alloc (.cells ((Array.replicate n (.bool false)).setIfInBounds j (.bool true)) 4)) w.heap.size n :=
  ⟨_, heapNew w _, by simp, fun i hi => by
    by_cases e : i = j
    · subst e; exact ⟨true, by simp [hi]⟩
    · exact ⟨false, by rw [Array.getElem?_setIfInBounds_ne (Ne.symm e)]; simp [hi]⟩⟩
theorem mk120 (n : Nat) (h1 : 1 ≤ n) (h5 : n ≤ 12) : ∀ (w : World), (Instr.makeSlice 120 (.int .i64 (n : Int)) (.int .i64 (n : Int))).run Tryz.prog w = .ok (.slice (some ⟨w.heap.size, 0, none⟩) n n) (w.alloc (.cells (Array.replicate n (.bool false)) 4)) := by
  have : n = 1 ∨ n = 2 ∨ n = 3 ∨ n = 4 ∨ n = 5 ∨ n = 6 ∨ n = 7 ∨ n = 8 ∨ n = 9 ∨ n = 10 ∨ n = 11 ∨ n = 12 := by omega
  rcases this with rfl | rfl | rfl | rfl | rfl | rfl | rfl | rfl | rfl | rfl | rfl | rfl
  all_goals (intro w; kernel_rfl)

/-- Two numbers come back. -/
def RetII (e : Ending) : Prop := ∃ n m : Int, e = .returned (.tuple #[.int .i64 n, .int .i64 m])

set_option maxRecDepth 100000 in
set_option maxHeartbeats 16000000 in
theorem check_any (S : Sample) (hS : SOk S) (hty : tyAll S = true) (w : World) (M : Nat → Nat) (hM : ∀ i, 1 ≤ M i ∧ M i ≤ 5) (rs : List Rl) (hsub : rs.Sublist S.rules) (ca sa ra : Option Addr) (cc sc rc : Nat) (hC : ColsAt w ca S.cols) (hY : SymsAt w sa S.syms M) (hR : RulesAt w ra rs) (bv : Value) (hB : BaseOk w bv) :
    Calls Tryz.prog 24 #[.agg #[.string S.nm, .int .i64 S.ver, .slice ca S.cols.length cc, .slice sa S.syms.length sc, .slice ra rs.length rc, .int .i64 S.st], bv] w fun e w' => RetII e ∧ Below w.heap.size w w' := by
  have HB1 : ∀ o1, Below w.heap.size w (w.alloc o1) := fun o1 => (Below.refl _ _).alloc (Nat.le_refl _) _
  have HR1 := Lib.hid (fun W (hb : Below w.heap.size w W) => right_of S hS W M hM rs hsub ca sa ra cc sc rc (hC.below hb) (hY.below hb) (hR.below hb))
  have HCT := Lib.hid (fun W (hb : Below w.heap.size w W) => counts_read S hS W M hM rs hsub ca sa ra cc sc rc (hC.below hb) (hY.below hb) (hR.below hb))
  have HFT := Lib.hid (fun W (hb : Below w.heap.size w W) r (hr : r ∈ S.rules) aa ac (hA : ArgsAt W aa r.args) => fits_any S hS hty W M rs.length ca sa ra cc sc rc (hC.below hb) (hY.below hb) r hr aa ac hA bv (hB.below hb))
  have hneed := Lib.hid hS.need
  have hrule := Lib.hid (fun r hr => hS.rule r (hsub.subset hr))
  have hin := Lib.hid (fun (r : Rl) (hr : r ∈ rs) => hsub.subset hr)
  have hsn0 := hS.syms0
  have hsn := hS.syms
  have hst := hS.st
  have hrn : rs.length ≤ 40 := Nat.le_trans hsub.length_le hS.rules
  clear hB
  go_enter Tryz.func24, Tryz.ntmps24
  go_wp2_with (go_at_call 50; refine (HR1.out _ (HB1 _)).mono ?_; rintro e w2 ⟨⟨r1, rfl⟩, hb2⟩)
  · go_ret2
    exact ⟨⟨_, _, rfl⟩, (HB1 _).trans (hb2.mono (by simp))⟩
  have h8 : r1 = true := by
    have h9' : (!r1) = false := by assumption
    simpa using h9'
  subst h8
  have HX : Box w2 w.heap.size #[.string S.nm, .int .i64 S.ver, .slice ca S.cols.length cc, .slice sa S.syms.length sc, .slice ra rs.length rc, .int .i64 S.st] :=
    Box.below (B := w.heap.size + 1) ⟨by simp, heapNew w _⟩ (by omega) (hb2.mono (by simp))
  have HB : Below w.heap.size w w2 := (HB1 _).trans (hb2.mono (by simp))
  clear hb2 HR1 HB1
  go_loopw [7] (fun i wr => ∃ k : Nat, k ≤ rs.length ∧ i = .int .i64 k ∧ Below w2.heap.size w2 wr) (fun i _ => rs.length - (RowKit.intOf i).toNat)
  case atStart => exact ⟨0, Nat.zero_le _, rfl, Below.refl _ _⟩
  case round =>
    obtain ⟨k, hk, rfl, hbr⟩ := hrel
    have HXr := HX.below HX.1 hbr
    have HBr : Below w.heap.size w wr := HB.trans (hbr.mono HB.size)
    have e0 := cellOf (i := 0) HXr.2 rfl
    have e1 := cellOf (i := 1) HXr.2 rfl
    have e2 := cellOf (i := 2) HXr.2 rfl
    have e3 := cellOf (i := 3) HXr.2 rfl
    have e4 := cellOf (i := 4) HXr.2 rfl
    have e5 := cellOf (i := 5) HXr.2 rfl
    have hlt1 := HXr.1
    by_cases hlt : k < rs.length
    · obtain ⟨rb, ro, rfl, hrb, hcc⟩ := hR.below HBr
      obtain ⟨aa, ac, hrl⟩ := hcc k hlt
      have f0 := hrl.c0
      have f1 := hrl.c1
      have f2 := hrl.c2
      have f3 := hrl.c3
      have HAR := Lib.hid hrl.args
      have j1 : (0 : Int) ≤ (k : Int) := by omega
      have j2 : (k : Int) < (rs.length : Int) := by omega
      have j3 : (k : Int) ≤ 1000 := by omega
      clear hrl hcc
      go_wp2
      go_still_tail 7, (by kernel_rfl)
      go_wp2_with (go_at_call 51; refine (HFT.out _ HBr.drew rs[k] (hin.out _ (List.getElem_mem hlt)) aa ac (HAR.out.below ((Below.refl _ _).drew))).mono ?_; rintro e w4 ⟨⟨q4, rfl⟩, hb4⟩)
      all_goals first
        | (go_roundw
           case rel => first | exact ⟨k + 1, by omega, by go_num, (hbr.drew).trans (hb4.mono hbr.size)⟩ | ((repeat apply Exists.intro); refine ⟨?_, rfl⟩; exact ⟨k + 1, by omega, by go_num, (hbr.drew).trans (hb4.mono hbr.size)⟩)
           case measure => simp [RowKit.intOf]; omega)
        | (go_ret2; exact ⟨⟨_, _, rfl⟩, HBr.drew.trans (hb4.mono HBr.size)⟩)
    · obtain rfl : k = rs.length := by omega
      clear HFT
      go_upto_block 2 with (go_at_call 52; refine (HCT.out _ HBr).mono ?_; rintro e w5 ⟨⟨va, cn, vc, rfl, hco⟩, hb5⟩)
      have HX5 := HXr.below HXr.1 hb5
      have HB5 : Below w.heap.size w w5 := HBr.trans (hb5.mono HBr.size)
      clear e0 e1 e2 e3 e4 e5 HXr HBr hb5 hbr HX HB hlt1 HCT
      go_cut [] (fun wx => Below w5.heap.size w5 wx)
      case first =>
        have hcn := hco.1
        go_wp2_with fail
        go_loopw [10] (fun i wr => ∃ k : Nat, k ≤ cn ∧ i = .int .i64 k ∧ Below w5.heap.size w5 wr) (fun i _ => cn - (RowKit.intOf i).toNat)
        case atStart => exact ⟨0, Nat.zero_le _, rfl, Below.refl _ _⟩
        case round =>
          obtain ⟨wo, rfl⟩ : ∃ wo : World, wo = wr := ⟨_, rfl⟩
          obtain ⟨k, hk, rfl, hbr⟩ := hrel
          by_cases hlt : k < cn
          · have j1 : (0 : Int) ≤ (k : Int) := by omega
            have j2 : (k : Int) < (cn : Int) := by omega
            have j3 : (k : Int) ≤ 1000 := by omega
            have hm5 := (hM k).2
            obtain ⟨cg, bs, rfl, hcg, hcs⟩ := (hco.below hbr).2 (by omega)
            obtain ⟨hsl, hNk⟩ := hcs k hlt
            have hbl := hNk.1
            go_wp2
            go_loopw [11, 12] (fun t i wq => ∃ (j v : Nat) (s : ByteArray), j ≤ M k + 1 ∧ i = .int .i64 j ∧ t = .string s ∧ IsN s v ∧ v ≤ j * 2147483648 ∧ Below wo.heap.size wo wq) (fun _ i _ => M k + 1 - (RowKit.intOf i).toNat)
            case atStart => exact ⟨0, 0, ⟨#[]⟩, by omega, rfl, rfl, ⟨rfl, by decide⟩, by omega, Below.refl _ _⟩
            case round =>
              obtain ⟨j, v, s, hj, rfl, rfl, hs, hv, hbq⟩ := hrel
              have hslq : wr.cell? ⟨cg, k, none⟩ = some (.slice (some ⟨bs k, 0, none⟩) (M k + 1) (M k + 1)) := by rw [hbq.cell hcg]; exact hsl
              have HBq : Below w5.heap.size w5 wr := hbr.trans (hbq.mono hbr.size)
              by_cases hlj : j < M k + 1
              · obtain ⟨sc', vc', cc', nc', lc'⟩ := (hNk.below hbl hbq).cell hlj
                have j4 : (0 : Int) ≤ (j : Int) := by omega
                have j5 : (j : Int) < (M k : Int) + 1 := by omega
                have j6 : (j : Int) ≤ 1000 := by omega
                have b1 : vc' < 2147483648 := Nat.lt_of_le_of_lt lc' (hneed.out.lt _ _)
                have HA := Lib.hid (fun W => add_small s sc' v vc' W hs nc' (by omega) (by omega))
                clear hsl
                go_wp2_with (go_at_call 53; refine (HA.out _).mono ?_; rintro e w7 ⟨⟨t2, rfl, hv2, hn2⟩, hb7⟩)
                go_roundw
                case rel => first | exact ⟨j + 1, v + vc', t2, by omega, by go_num, rfl, ⟨hv2, hn2⟩, by omega, hbq.trans (hb7.mono hbq.size)⟩ | ((repeat apply Exists.intro); refine ⟨?_, rfl⟩; exact ⟨j + 1, v + vc', t2, by omega, by go_num, rfl, ⟨hv2, hn2⟩, by omega, hbq.trans (hb7.mono hbq.size)⟩)
                case measure => simp [RowKit.intOf]; omega
              · have j5 : ¬ (j : Int) < (M k : Int) + 1 := by omega
                clear hsl
                go_wp2
                all_goals first
                  | (go_roundw
                     case rel => first | exact ⟨k + 1, by omega, by go_num, HBq⟩ | ((repeat apply Exists.intro); refine ⟨?_, rfl⟩; exact ⟨k + 1, by omega, by go_num, HBq⟩)
                     case measure => simp [RowKit.intOf]; omega)
                  | (go_ret2; exact ⟨⟨_, _, rfl⟩, HB5.trans (HBq.mono HB5.size)⟩)
          · go_wp2_with fail
            go_meet
            exact hbr
      case rest =>
        have HXc := HX5.below HX5.1 hcut
        have HBc : Below w.heap.size w wc := HB5.trans (hcut.mono HB5.size)
        clear HX5 HB5 hcut hco hneed
        have hmk := mk120 S.syms.length hsn0 hsn
        have e3 := cellOf (i := 3) HXc.2 rfl
        have e5 := cellOf (i := 5) HXc.2 rfl
        have hl0 := HXc.1
        have hB0 := Bools.new wc S.syms.length
        obtain ⟨x0, c0⟩ := hB0.cell hst
        have z0 := hB0.free S.st
        have j0 : (S.st : Int) < (S.syms.length : Int) := by omega
        have HB0 := Lib.hid (Bools.new1 wc S.syms.length S.st)
        have HBB := Lib.hid ((Below.refl wc.heap.size wc).alloc (Nat.le_refl _) (.cells ((Array.replicate S.syms.length (.bool false)).setIfInBounds S.st (.bool true)) 4))
        clear hB0
        go_wp2
        clear hmk c0 z0 e3 e5
        generalize (wc.alloc (.cells ((Array.replicate S.syms.length (.bool false)).setIfInBounds S.st (.bool true)) 4)) = wd at HB0 HBB ⊢
        go_loopw [14] (fun i wr => ∃ k : Nat, k ≤ S.syms.length ∧ i = .int .i64 k ∧ Bools wr wc.heap.size S.syms.length ∧ Below wc.heap.size wc wr) (fun i _ => S.syms.length - (RowKit.intOf i).toNat)
        case atStart => exact ⟨0, Nat.zero_le _, rfl, HB0.out, HBB.out⟩
        case round =>
          clear HB0 HBB
          obtain ⟨wo, rfl⟩ : ∃ wo : World, wo = wr := ⟨_, rfl⟩
          obtain ⟨z, hz, rfl, hbo, hbr⟩ := hrel
          have HXr := HXc.below hl0 hbr
          have e3 := cellOf (i := 3) HXr.2 rfl
          by_cases hltz : z < S.syms.length
          · have j1 : (z : Int) < (S.syms.length : Int) := by omega
            have j2 : (z : Int) ≤ 1000 := by omega
            go_wp2
            go_loopw [15] (fun i wk => ∃ k : Nat, k ≤ rs.length ∧ i = .int .i64 k ∧ Bools wk wc.heap.size S.syms.length ∧ Below wc.heap.size wc wk) (fun i _ => rs.length - (RowKit.intOf i).toNat)
            case atStart => exact ⟨0, Nat.zero_le _, rfl, hbo, hbr⟩
            case round =>
              clear hbo hbr HXr e3
              obtain ⟨wk, rfl⟩ : ∃ wk : World, wk = wr := ⟨_, rfl⟩
              obtain ⟨k, hk', rfl, hbo, hbr⟩ := hrel
              have HXr := HXc.below hl0 hbr
              have e4 := cellOf (i := 4) HXr.2 rfl
              by_cases hltk : k < rs.length
              · have j3 : (k : Int) < (rs.length : Int) := by omega
                have j4 : (k : Int) ≤ 1000 := by omega
                have j5 : (0 : Int) ≤ (k : Int) := by omega
                obtain ⟨hh, hal, harg, _, _⟩ := hrule.out _ (List.getElem_mem hltk)
                have j6 : (rs[k].h : Int) < (S.syms.length : Int) := by omega
                have j7 : (0 : Int) ≤ (rs[k].h : Int) := by omega
                go_wp2
                go_loopw [16] (fun i wq => ∃ j : Nat, j ≤ rs[k].args.length ∧ i = .int .i64 j ∧ Bools wq wc.heap.size S.syms.length ∧ Below wc.heap.size wc wq) (fun i _ => rs[k].args.length - (RowKit.intOf i).toNat)
                case atStart => exact ⟨0, Nat.zero_le _, rfl, hbo, hbr⟩
                case round =>
                  clear hbo hbr HXr e4
                  obtain ⟨j, hj, rfl, hbo, hbr⟩ := hrel
                  have HXr := HXc.below hl0 hbr
                  have e4 := cellOf (i := 4) HXr.2 rfl
                  have HBr : Below w.heap.size w wr := HBc.trans (hbr.mono (by have := HBc.size; omega))
                  obtain ⟨rb, ro, rfl, hrb, hcc⟩ := hR.below HBr
                  obtain ⟨aa, ac, hrl⟩ := hcc k hltk
                  have f0 := hrl.c0
                  have f3 := hrl.c3
                  by_cases hlj : j < rs[k].args.length
                  · obtain ⟨x, cx⟩ := hbo.cell hh
                    have j8 : (j : Int) < (rs[k].args.length : Int) := by omega
                    have j9 : (0 : Int) ≤ (j : Int) := by omega
                    have j10 : (j : Int) ≤ 1000 := by omega
                    cases x
                    · clear hcc hrl
                      go_wp2
                      go_roundw
                      case rel => first | exact ⟨k + 1, by omega, by go_num, hbo, hbr⟩ | ((repeat apply Exists.intro); refine ⟨?_, rfl⟩; exact ⟨k + 1, by omega, by go_num, hbo, hbr⟩)
                      case measure => simp [RowKit.intOf]; omega
                    · obtain ⟨ab, ao, rfl, hab, hax⟩ := hrl.args (by omega)
                      have hcx := hax j hlj
                      have hasn := harg _ (List.getElem_mem hlj)
                      have j11 : (rs[k].args[j] : Int) < (S.syms.length : Int) := by omega
                      have j12 : (0 : Int) ≤ (rs[k].args[j] : Int) := by omega
                      obtain ⟨y, cy⟩ := hbo.cell hasn
                      have fy := hbo.free rs[k].args[j]
                      have HN := Lib.hid (hbo.set rs[k].args[j] true)
                      have HNB := Lib.hid (hbr.setCell (p := ⟨wc.heap.size, rs[k].args[j], none⟩) (Nat.le_refl _) (.bool true))
                      clear hcc hrl hax hbo hbr
                      go_wp2
                      go_roundw
                      case rel => first | exact ⟨j + 1, by omega, by go_num, HN.out, HNB.out⟩ | ((repeat apply Exists.intro); refine ⟨?_, rfl⟩; exact ⟨j + 1, by omega, by go_num, HN.out, HNB.out⟩)
                      case measure => simp [RowKit.intOf]; omega
                  · have j8 : ¬ (j : Int) < (rs[k].args.length : Int) := by omega
                    clear hcc hrl
                    go_wp2
                    go_roundw
                    case rel => first | exact ⟨k + 1, by omega, by go_num, hbo, hbr⟩ | ((repeat apply Exists.intro); refine ⟨?_, rfl⟩; exact ⟨k + 1, by omega, by go_num, hbo, hbr⟩)
                    case measure => simp [RowKit.intOf]; omega
              · go_wp2
                go_roundw
                case rel => first | exact ⟨z + 1, by omega, by go_num, hbo, hbr⟩ | ((repeat apply Exists.intro); refine ⟨?_, rfl⟩; exact ⟨z + 1, by omega, by go_num, hbo, hbr⟩)
                case measure => simp [RowKit.intOf]; omega
          · have HBo : Below w.heap.size w wo := HBc.trans (hbr.mono (by have := HBc.size; omega))
            go_wp2
            go_loopw [17] (fun i wq => ∃ j : Nat, j ≤ S.syms.length ∧ i = .int .i64 j ∧ wq = wo) (fun i _ => S.syms.length - (RowKit.intOf i).toNat)
            case atStart => exact ⟨0, Nat.zero_le _, rfl, rfl⟩
            case round =>
              obtain ⟨j, hj, rfl, rfl⟩ := hrel
              by_cases hlj : j < S.syms.length
              · obtain ⟨x, cx⟩ := hbo.cell hlj
                have j8 : (j : Int) < (S.syms.length : Int) := by omega
                have j9 : (0 : Int) ≤ (j : Int) := by omega
                have j10 : (j : Int) ≤ 1000 := by omega
                cases x
                · go_wp2
                  go_ret2
                  exact ⟨⟨_, _, rfl⟩, HBo⟩
                · go_wp2
                  go_roundw
                  case rel => first | exact ⟨j + 1, by omega, by go_num, trivial⟩ | exact ⟨j + 1, by omega, by go_num, rfl⟩ | ((repeat apply Exists.intro); refine ⟨?_, rfl⟩; exact ⟨j + 1, by omega, by go_num, rfl⟩)
                  case measure => simp [RowKit.intOf]; omega
              · go_wp2
                go_ret2
                exact ⟨⟨_, _, rfl⟩, HBo⟩
end Go.EvNil
