/-
  The end of the law as a closed run.
-/
import Derived.Test.YtcooocbhkkmiaaaGreatDoorConB
set_option linter.all false
namespace Go.EvProp
open Go Go.Ev Go.Proofs Go.RowKit
set_option maxRecDepth 100000

/-- A piece of code that the evaluator has run to its return. -/
theorem wp_of_sim {P : Program} {ρ : Rho} {nt : Nat} {c : Code} {F : SemF} (hF : SimC P ρ nt (fun b => b.roundOf = none) c F) {σ : Sig} {x x' : St} (hrun : F x = some (.ret, x')) {a : Act} {w : World} (hst : StRel P ρ nt σ x a.tmps a.defers w)
    {Q : Exit → Act → World → Prop} (hQ : ∀ σ' (a' : Act) w', StRel P ρ nt σ' x' a'.tmps a'.defers w' → Goes σ x.h w σ' x'.h w' → Q .ret a' w') : c.wp P Q a w := by
  intro b k cs
  obtain ⟨σ', t', ds', w', h1, h2, h3⟩ := hF σ x .ret x' hrun ⟨b.fn, b.kind, none⟩ rfl k cs a.tmps a.defers w hst
  obtain ⟨k2, l2⟩ := h3
  exact ⟨.ret, ⟨t', ds'⟩, w', hQ σ' ⟨t', ds'⟩ w' h1 h2, _, Steps.trans l2 (.one (st_ret rfl))⟩

/-! Slots of which nothing is asked: each cell is a letter. -/
def absV (i : Nat) : Nat → AV
  | 0 => .sym (100 + 20 * i)
  | 21 => .tup []
  | m + 1 => .agg ((List.range (m + 1)).map fun j => .sym (100 + (20 * i + j)))
def fitsV : Nat → Value → Bool
  | 0, v => one v
  | 21, .tuple arr => arr.size == 0
  | 21, _ => false
  | m + 1, .agg arr => arr.size == m + 1 && decide (m + 1 ≤ 20) && arr.toList.all one
  | _, _ => false
def valAt (a : Array Value) (n : Nat) : Value := match a.getD (n / 20) undef with
  | .agg arr => arr.getD (n % 20) undef
  | v => v

theorem conc_syms {ρ : Rho} {σ : Sig} : ∀ (js : List Nat) (cs : List Value), js.length = cs.length → (∀ i (h : i < js.length) (h' : i < cs.length), ρ.val js[i] = cs[i]) → cs.all one = true → concL ρ σ (js.map AV.sym) = some cs
  | [], [], _, _, _ => rfl
  | [], _ :: _, h, _, _ => by simp at h
  | _ :: _, [], h, _, _ => by simp at h
  | j :: js, c :: cs, h, hv, ha => by
    have h0 := hv 0 (by simp) (by simp)
    simp only [List.getElem_cons_zero] at h0
    simp only [List.all_cons, Bool.and_eq_true] at ha
    have hr := conc_syms (ρ := ρ) (σ := σ) js cs (by simpa using h) (fun i h1 h2 => by have := hv (i + 1) (by simp; omega) (by simp; omega); simpa using this) ha.2
    simp only [List.map_cons, concL]
    rw [hr]
    simp [conc, h0, ha.1]

theorem abs_ok {ρ : Rho} {σ : Sig} {a : Array Value} (hρ : ∀ n, ρ.val (100 + n) = valAt a n) (i m : Nat) (h : fitsV m (a.getD i undef) = true) : conc ρ σ (absV i m) = some (a.getD i undef) := by
  have d1 : ∀ j, j < 20 → (20 * i + j) / 20 = i ∧ (20 * i + j) % 20 = j := fun j hj => by omega
  unfold fitsV at h
  split at h
  · have hv : ρ.val (100 + 20 * i) = a.getD i undef := by
      rw [hρ]
      unfold valAt
      have := d1 0 (by omega)
      rw [Nat.add_zero] at this
      rw [this.1, this.2]
      split
      · rename_i e; rw [e] at h; cases h
      · rfl
    show (if one (ρ.val (100 + 20 * i)) = true then some (ρ.val (100 + 20 * i)) else none) = _
    rw [hv, if_pos h]
  · rename_i arr e
    rw [e]
    have : arr = #[] := Array.eq_empty_of_size_eq_zero (by simpa using h)
    subst this
    rfl
  · cases h
  · rename_i m' arr hne e
    simp only [Bool.and_eq_true, beq_iff_eq, decide_eq_true_eq] at h
    obtain ⟨⟨h1, h2⟩, h3⟩ := h
    rw [e]
    have hab : absV i (m' + 1) = .agg (((List.range (m' + 1)).map fun j => 100 + (20 * i + j)).map AV.sym) := by
      unfold absV
      split
      · rename_i q; omega
      · rename_i q; omega
      · rename_i q; rw [List.map_map]; cases q; rfl
    rw [hab]
    have hc := conc_syms (ρ := ρ) (σ := σ) ((List.range (m' + 1)).map fun j => 100 + (20 * i + j)) arr.toList (by simp [h1]) (fun j hj hj' => by
      simp only [List.getElem_map, List.getElem_range]
      rw [hρ]
      simp at hj
      have := d1 j (by omega)
      unfold valAt
      rw [this.1, this.2, e]
      simp only [Array.length_toList] at hj'
      simp [Array.getD, hj']) h3
    simp only [conc]
    rw [hc]
    simp
  · cases h

def absL (sh : List Nat) : List AV := (List.range sh.length).map fun i => absV i (sh.getD i 0)
theorem absL_ok {ρ : Rho} {σ : Sig} {a : Array Value} {nt : Nat} (hρ : ∀ n, ρ.val (100 + n) = valAt a n) (sh : List Nat) (hl : sh.length = nt) (hnt : nt ≤ 256) (ha : a.size = nt) (h : ∀ i, i < nt → fitsV (sh.getD i 0) (a.getD i undef) = true) : SRel ρ σ nt (putArgs (absL sh) 0 s0) a := by
  refine ⟨ha, hnt, fun i hi => ?_⟩
  have hlen : (absL sh).length = nt := by simp [absL, hl]
  rw [g_putArgs (by omega) (by rw [hlen]; omega), if_pos ⟨by omega, by rw [hlen]; omega⟩]
  have : (absL sh).getD (i - 0) aundef = absV i (sh.getD i 0) := by
    unfold absL
    rw [List.getD_eq_getElem?_getD, List.getElem?_map, List.getElem?_range (by omega)]
    simp
  rw [this]
  exact abs_ok hρ i _ (h i hi)

theorem SRel.at {ρ : Rho} {σ : Sig} {nt : Nat} {s : Ev.S} {a : Array Value} (h : SRel ρ σ nt s a) {i : Nat} (hi : i < nt) {v : AV} {c : Value} (hv : conc ρ σ v = some c) (hc : a.getD i undef = c) : SRel ρ σ nt (put i v s) a := by
  have := h.put hi hv
  have e : a.setIfInBounds i c = a := by
    apply Array.ext_getElem?
    intro j
    rw [Array.getElem?_setIfInBounds]
    by_cases hj : i = j
    · subst hj
      have : i < a.size := by rw [h.1]; exact hi
      simp only [if_pos, this]
      simp only [Array.getD, this, dif_pos] at hc
      rw [Array.getElem?_eq_getElem this]
      simp [← hc]
    · simp [hj]
  rwa [e] at this

/-- The same blocks under the first 17 names. -/
def cut17 (σ : Sig) : Sig := fun b => if b < 17 then σ b else none
theorem cut_gok {σ : Sig} (h : GOk Tryz.prog σ) : GOk Tryz.prog (cut17 σ) := fun k hk => by
  obtain ⟨t, ht⟩ := h k hk
  rw [gsize] at hk
  exact ⟨t, by unfold cut17; rw [if_pos (by omega)]; exact ht⟩
theorem cut_hrel {ρ : Rho} {σ : Sig} {h : H} {w : World} (hH : HRel ρ σ h w) {l : Blks} (hs : small l = true) (hl : ∀ b x, (b, x) ∈ l → b < 17 ∧ h.get b = some x ∧ ∃ e vs cs, x = .ro e vs ∧ ∀ σ, concL ρ σ vs = some cs) : HRel ρ (cut17 σ) (putL ⟨.e, 17⟩ l) w := by
  have at' : ∀ b p, cut17 σ b = some p → σ b = some p := fun b p hp => by
    unfold cut17 at hp
    split at hp
    · exact hp
    · cases hp
  refine ⟨fun b x hb => ?_, fun b b' x x' p p' hb hb' hp hp' hne => ?_, fun b hb => ?_⟩
  · obtain ⟨h1, h2, e, vs, cs, rfl, hc⟩ := hl b x (putE_get hs hb)
    obtain ⟨p, hp, cs', hc', ho, ht⟩ := hH.blk b _ h2
    obtain rfl : cs = cs' := Option.some.inj ((hc σ).symm.trans hc')
    exact ⟨p, by unfold cut17; rw [if_pos h1]; exact hp, cs, hc _, ho, ht⟩
  · exact hH.inj b b' x x' p p' (hl b x (putE_get hs hb)).2.1 (hl b' x' (putE_get hs hb')).2.1 (at' b p hp) (at' b' p' hp') hne
  · have hb : 17 ≤ b := by rw [putL_nx] at hb; exact hb
    unfold cut17
    rw [if_neg (by omega)]
end Go.EvProp

namespace Go.EvProp
open Go Go.Ev Go.Proofs Go.RowKit
set_option maxRecDepth 100000

def gL : List AV := [.str [103], i6 0, .slice 13 0 1 2 (some 1), .slice 14 0 1 3 (some 1), .slice 15 0 1 4 (some 1), i6 0]
def iL (p : List Nat) (q : AV) : List AV := [i6 1, i6 1, i6 0, i6 0, i6 3, .slice 16 0 1 7 (some 1)] ++ zero7 ++ [.str p, q, .nilslice]
def gB : ABlk := .ro 37 gL
def itB (p : List Nat) (q : AV) : ABlk := .ro 47 (iL p q)
def numL : List AV := [i6 2, .str [], .sym 4, .sym 5, i6 0, .nilslice, .nilslice]
def dateL : List AV := [i6 3, .str [], i6 0, i6 0, .sym 4, .nilslice, .nilslice]
def l9 (K : Nat) (p : List Nat) (q : AV) (va : List AV) : Blks := blks K inB ++ [(17, gB), (18, itB p q), (19, .ro 43 va)]

/-- The item without its input. -/
def iA21 : AV := .agg ([i6 1, i6 1, i6 0, i6 0, i6 3, .slice 21 0 1 7 none] ++ zero7 ++ [.str nbf, pD, .nilslice])
def need21 : Blks := [(0, tensB), (1, powB), (13, colB), (14, symB 3), (15, ruleB), (21, .cells 43 zero7 true true)]

noncomputable def extF (K : Nat) (p : List Nat) (q : AV) (va : AV) (r : Bool) (lastF : List AV → H → Option (AV × H)) : Ext1 := fun f => bif Nat.beq f 8 then some (constF [gA, iA p q] (i6 0) (blks K inB) noneF) else bif Nat.beq f 9 then some (constF [gA, iA p q, va] (.bool r) (blks K inB) (constF [gA, iA p q, noneA] (.bool false) (blks K inB) (constF [gA, iA p q, textA] (.bool false) (blks K inB) lastF))) else extP f

def dropSeq : Nat → Code → Code
  | 0, c => c
  | n + 1, .seq _ d => dropSeq n d
  | _ + 1, c => c
def bodyOf (fn : Func) : Code := match fn.body with
  | some c => c
  | none => .skip
noncomputable def rest3 : Code := dropSeq 8 (bodyOf Tryz.f3)
theorem rest_stat : statC Tryz.prog 117 rest3 = true := by kernel_rfl

def x9 (sh : List Nat) (k : Nat) (want : Bool) (l : Blks) : St := ⟨put 13 (.bool want) (put 12 (.ptr 19 0) (put 11 (.ptr 18 0) (put 10 (.ptr 17 0) (put 7 (.bool true) (put 2 (.int .u8 (.ofNat k)) (putArgs (absL sh) 0 s0)))))), putL ⟨.e, 20⟩ l, []⟩
noncomputable def runRest (E : Env) (x : St) : Res := match denCK Tryz.prog 117 none rest3 with
  | some c => semK E 50 c x
  | none => .fail
def okRet (l : Blks) : Res → Bool
  | .ret y => AV.beq (g 6 y.s) (.bool true) && y.df.isEmpty && hasAll y.h l
  | _ => false
def shA : List Nat := [0, 0, 0, 21, 21, 21, 0, 0, 0, 0, 0, 0, 0, 0, 21, 21, 0, 0, 2, 0, 0, 2, 0, 2, 0, 3, 0, 4, 0, 6, 0, 7, 0, 16, 0, 7, 0, 0, 0, 0, 0, 0, 0, 0, 0, 0, 0, 21, 21, 21, 21, 21, 21, 21, 21, 21, 21, 21, 21, 21, 21, 21, 21, 21, 21, 21, 21, 21, 21, 21, 21, 21, 21, 21, 21, 21, 21, 21, 21, 21, 21, 21, 21, 21, 21, 21, 21, 21, 21, 21, 21, 21, 21, 21, 21, 21, 21, 21, 21, 21, 21, 21, 21, 21, 21, 21, 21, 21, 21, 21, 21, 21, 21, 21, 21, 21, 21]
def shB : List Nat := [0, 0, 0, 21, 21, 21, 0, 0, 0, 0, 0, 0, 0, 0, 0, 21, 0, 0, 2, 0, 0, 2, 0, 2, 0, 3, 0, 4, 0, 6, 0, 7, 0, 16, 0, 7, 0, 0, 0, 0, 0, 0, 0, 0, 0, 0, 0, 0, 0, 0, 0, 0, 7, 0, 7, 7, 0, 0, 0, 0, 7, 7, 0, 0, 0, 0, 0, 21, 21, 21, 21, 21, 21, 21, 21, 21, 21, 21, 21, 21, 21, 21, 21, 21, 21, 21, 21, 21, 21, 21, 21, 21, 21, 21, 21, 21, 21, 21, 21, 21, 21, 21, 21, 21, 21, 21, 21, 21, 21, 21, 21, 21, 21, 21, 21, 21, 21]
def shC : List Nat := [0, 0, 0, 21, 21, 21, 0, 0, 0, 0, 0, 0, 0, 0, 0, 21, 0, 0, 2, 0, 0, 2, 0, 2, 0, 3, 0, 4, 0, 6, 0, 7, 0, 16, 0, 7, 0, 0, 0, 0, 0, 0, 0, 0, 0, 0, 0, 0, 0, 0, 0, 0, 7, 0, 7, 7, 0, 0, 0, 0, 7, 7, 0, 0, 0, 0, 0, 0, 7, 7, 0, 0, 21, 21, 21, 21, 21, 21, 21, 21, 21, 21, 21, 21, 21, 21, 21, 21, 21, 21, 21, 21, 21, 21, 21, 21, 21, 21, 21, 21, 21, 21, 21, 21, 21, 21, 21, 21, 21, 21, 21, 21, 21, 21, 21, 21, 21]
noncomputable def tryA (r : Bool) (k : Nat) : Bool := okRet (l9 3 nbf pD dateL) (runRest (envK Tryz.prog (extF 3 nbf pD (dateA 4) r (constF [gA, iA21, dateA 4] (.bool false) need21 noneF)) tabT.find 50) (x9 shA k r (l9 3 nbf pD dateL)))
noncomputable def tryB (r : Bool) (k : Nat) : Bool := okRet (l9 2 atl (.sym 1) numL) (runRest (envK Tryz.prog (extF 2 atl (.sym 1) numA r noneF) tabT.find 50) (x9 shB k r (l9 2 atl (.sym 1) numL)))
noncomputable def tryC (r : Bool) (k : Nat) : Bool := okRet (l9 2 atm (.sym 1) numL) (runRest (envK Tryz.prog (extF 2 atm (.sym 1) numA r noneF) tabT.find 50) (x9 shC k r (l9 2 atm (.sym 1) numL)))
theorem tryA0 : tryA true 0 = true := by kernel_rfl
theorem tryB0 : tryB true 1 = true := by kernel_rfl
theorem tryC0 : tryC false 2 = true := by kernel_rfl
end Go.EvProp
