/-
  The stand-ins of that run are right.
-/
import Derived.Test.YtcooocbhkkmiaaaGreatDoorEndR
set_option linter.all false
namespace Go.EvProp
open Go Go.Ev Go.Proofs Go.RowKit
set_option maxRecDepth 100000

theorem cut_hrel2 {ρ ρ' : Rho} (ht : ρ'.tl = ρ.tl) (hz : ρ'.fz = ρ.fz) {σ : Sig} {h : H} {w : World} (hH : HRel ρ σ h w) {l : Blks} (hs : small l = true) (hl : ∀ b x, (b, x) ∈ l → b < 17 ∧ h.get b = some x ∧ ∃ e vs cs, x = .ro e vs ∧ ∀ σ, concL ρ σ vs = some cs ∧ concL ρ' σ vs = some cs) : HRel ρ' (cut17 σ) (putL ⟨.e, 17⟩ l) w := by
  have at' : ∀ b p, cut17 σ b = some p → σ b = some p := fun b p hp => by
    unfold cut17 at hp
    split at hp
    · exact hp
    · cases hp
  refine ⟨fun b x hb => ?_, fun b b' x x' p p' hb hb' hp hp' hne => ?_, fun b hb => ?_⟩
  · obtain ⟨h1, h2, e, vs, cs, rfl, hc⟩ := hl b x (putE_get hs hb)
    obtain ⟨p, hp, cs', hc', ho, ht'⟩ := hH.blk b _ h2
    obtain rfl : cs = cs' := Option.some.inj ((hc σ).1.symm.trans hc')
    exact ⟨p, by unfold cut17; rw [if_pos h1]; exact hp, cs, (hc _).2, by rw [ht, hz]; exact ho, by rw [ht]; exact ht'⟩
  · exact hH.inj b b' x x' p p' (hl b x (putE_get hs hb)).2.1 (hl b' x' (putE_get hs hb')).2.1 (at' b p hp) (at' b' p' hp') hne
  · have hb : 17 ≤ b := by rw [putL_nx] at hb; exact hb
    unfold cut17
    rw [if_neg (by omega)]

theorem blks_ok {ρ ρ' : Rho} {d : Int} (h0 : ρ.val 0 = .int .i64 d) (h0' : ρ'.val 0 = .int .i64 d) {K : Nat} {h : H} (hn : ∀ b x, (b, x) ∈ blks K inB → h.get b = some x) (b : Nat) (x : ABlk) (hm : (b, x) ∈ blks K inB) : b < 17 ∧ h.get b = some x ∧ ∃ e vs cs, x = .ro e vs ∧ ∀ σ, concL ρ σ vs = some cs ∧ concL ρ' σ vs = some cs := by
  have hg := hn b x hm
  simp only [blks, List.mem_cons, List.mem_nil_iff, or_false, Prod.mk.injEq] at hm
  rcases hm with ⟨rfl, rfl⟩ | ⟨rfl, rfl⟩ | ⟨rfl, rfl⟩ | ⟨rfl, rfl⟩ | ⟨rfl, rfl⟩ | ⟨rfl, rfl⟩
  · exact ⟨by omega, hg, _, _, _, rfl, fun σ => ⟨rfl, rfl⟩⟩
  · exact ⟨by omega, hg, _, _, _, rfl, fun σ => ⟨rfl, rfl⟩⟩
  · exact ⟨by omega, hg, _, _, _, rfl, fun σ => ⟨rfl, rfl⟩⟩
  · exact ⟨by omega, hg, _, _, _, rfl, fun σ => ⟨rfl, rfl⟩⟩
  · exact ⟨by omega, hg, _, _, _, rfl, fun σ => ⟨rfl, rfl⟩⟩
  · exact ⟨by omega, hg, _, _, _, rfl, fun σ => ⟨conc_in h0, conc_in h0'⟩⟩

theorem hc_i0 {ρ ρ' : Rho} (ht : ρ'.tl = ρ.tl) (hz : ρ'.fz = ρ.fz) (hρ : ρ'.loops = loopsOf Tryz.prog) {ext : Ext1} (hx : ∀ f F, ext f = some F → FnOk Tryz.prog ρ' f F) {f : FuncId} (hf : ext f = none) {args : List AV} (hargs : ∀ σ, concL ρ' (cut17 σ) args = concL ρ σ args) {K : Nat} {d : Int} (h0 : ρ.val 0 = .int .i64 d) (h0' : ρ'.val 0 = .int .i64 d) (hrun : isI0 (blks K inB) ((envK Tryz.prog ext tabT.find 1000).call f args (putL ⟨.e, 17⟩ (blks K inB))) = true) (σ : Sig) (h : H) (cs : List Value) (w : World) (hg : GOk Tryz.prog σ) (hH : HRel ρ σ h w) (hn : ∀ b x, (b, x) ∈ blks K inB → h.get b = some x) (hc : concL ρ σ args = some cs) : Calls Tryz.prog f cs.toArray w fun e w' => ∃ c, e = .returned c ∧ conc ρ σ (i6 0) = some c ∧ RowKit.Below w.heap.size w w' :=
  (i0_of hρ hx hf (cut_gok hg) ((hargs σ).trans hc) rfl rfl (cut_hrel2 ht hz hH rfl (blks_ok h0 h0' hn)) hrun).mono fun e w' ⟨h1, h2⟩ => ⟨_, h1, rfl, h2⟩
theorem hc_b {ρ ρ' : Rho} (ht : ρ'.tl = ρ.tl) (hz : ρ'.fz = ρ.fz) (hρ : ρ'.loops = loopsOf Tryz.prog) {ext : Ext1} (hx : ∀ f F, ext f = some F → FnOk Tryz.prog ρ' f F) {f : FuncId} (hf : ext f = none) {args : List AV} (hargs : ∀ σ, concL ρ' (cut17 σ) args = concL ρ σ args) {K : Nat} {d : Int} (h0 : ρ.val 0 = .int .i64 d) (h0' : ρ'.val 0 = .int .i64 d) {b : Bool} (hrun : isB b (blks K inB) ((envK Tryz.prog ext tabT.find 1000).call f args (putL ⟨.e, 17⟩ (blks K inB))) = true) (σ : Sig) (h : H) (cs : List Value) (w : World) (hg : GOk Tryz.prog σ) (hH : HRel ρ σ h w) (hn : ∀ b x, (b, x) ∈ blks K inB → h.get b = some x) (hc : concL ρ σ args = some cs) : Calls Tryz.prog f cs.toArray w fun e w' => ∃ c, e = .returned c ∧ conc ρ σ (.bool b) = some c ∧ RowKit.Below w.heap.size w w' :=
  (b_of hρ hx hf (cut_gok hg) ((hargs σ).trans hc) rfl rfl (cut_hrel2 ht hz hH rfl (blks_ok h0 h0' hn)) hrun).mono fun e w' ⟨h1, h2⟩ => ⟨_, h1, rfl, h2⟩

/-- Other values for the letters 4 and 5. -/
def put45 (ρ : Rho) (x y : Value) : Rho := { ρ with val := fun i => if i = 4 then x else if i = 5 then y else ρ.val i }

/-! The item without its input: its input lies in the block 21. -/
def sig21 (σ : Sig) : Sig := fun b => if b = 16 then σ 21 else cut17 σ b
theorem gok21 {σ : Sig} (h : GOk Tryz.prog σ) : GOk Tryz.prog (sig21 σ) := fun k hk => by
  obtain ⟨t, ht⟩ := cut_gok h k hk
  rw [gsize] at hk
  exact ⟨t, by unfold sig21; rw [if_neg (by omega)]; exact ht⟩
theorem ro_same {ρ : Rho} {σ σ' : Sig} {p : Ev.Place} {w : World} {e : TypeId} {vs : List AV} {cs : List Value} (h : ORel ρ σ p w.heap[p.blk]? (.ro e vs)) (hc : ∀ (ρ : Rho) σ, concL ρ σ vs = some cs) : ORel (ρ.at w) σ' p w.heap[p.blk]? (.ro e vs) := by
  obtain ⟨cs', h1, h2, h3⟩ := h
  obtain rfl : cs = cs' := Option.some.inj ((hc ρ σ).symm.trans h1)
  have e1 : contOf w p.blk = ρ.tl p.blk := contOf_eq h2
  have e2 : fzOf w p.blk = ρ.fz p.blk := by simp [fzOf, h2]
  refine ⟨cs, hc _ _, ?_, ?_⟩
  · show w.heap[p.blk]? = some (.cells (contOf w p.blk) e (fzOf w p.blk))
    rw [e1, e2]; exact h2
  · show ∀ i, i < vs.length → (contOf w p.blk)[p.del + i]? = cs[i]?
    rw [e1]; exact h3
theorem ro_new {ρ : Rho} {σ σ' : Sig} {p : Ev.Place} {w : World} {e : TypeId} {vs : List AV} {cs : List Value} {t wr : Bool} (h : ORel ρ σ p w.heap[p.blk]? (.cells e vs t wr)) (hc : ∀ (ρ : Rho) σ, concL ρ σ vs = some cs) : ORel (ρ.at w) σ' p w.heap[p.blk]? (.ro e vs) := by
  obtain ⟨arr, fz, h1, _, _, _, ⟨cs', h2, h3⟩, _⟩ := h
  obtain rfl : cs = cs' := Option.some.inj ((hc ρ σ).symm.trans h2)
  have e1 : contOf w p.blk = arr := contOf_eq h1
  have e2 : fzOf w p.blk = fz := by simp [fzOf, h1]
  refine ⟨cs, hc _ _, ?_, ?_⟩
  · show w.heap[p.blk]? = some (.cells (contOf w p.blk) e (fzOf w p.blk))
    rw [e1, e2]; exact h1
  · show ∀ i, i < vs.length → (contOf w p.blk)[p.del + i]? = cs[i]?
    rw [e1]; exact h3

theorem conc21 {ρ ρ' : Rho} {σ : Sig} {b : Nat} (hv : ρ'.val = ρ.val) (h : σ 21 = some ⟨b, 0, 7⟩) : concL ρ' (sig21 σ) [gA, iA nbf pD, dateA 4] = concL ρ σ [gA, iA21, dateA 4] := by
  have e1 : conc ρ' (sig21 σ) gA = conc ρ σ gA := rfl
  have e3 : conc ρ' (sig21 σ) (dateA 4) = conc ρ σ (dateA 4) := by
    have : conc ρ' (sig21 σ) (.sym 4) = conc ρ σ (.sym 4) := by simp only [conc, hv]
    simp only [dateA, conc, concL] at this ⊢
    rw [this]
  have e2 : conc ρ' (sig21 σ) (iA nbf pD) = conc ρ σ iA21 := by
    have : conc ρ' (sig21 σ) (.slice 16 0 1 7 (some 1)) = conc ρ σ (.slice 21 0 1 7 none) := by
      have a1 : sig21 σ 16 = some ⟨b, 0, 7⟩ := h
      simp only [conc, a1, h]
      simp [capN]
    simp only [iA, iA21, zero7, i6, pD, List.cons_append, List.nil_append, conc, concL] at this ⊢
    rw [this]
  simp only [concL, e1, e2, e3]

theorem hc21 {ρ : Rho} {d v : Int} (R : RhoD ρ d v) (v0 : 0 ≤ v) (v1 : v ≤ 3652058) (d0 : 0 ≤ d) (d1 : d ≤ 3652058) (σ : Sig) (h : H) (cs : List Value) (w : World) (hg : GOk Tryz.prog σ) (hH : HRel ρ σ h w) (hn : ∀ b x, (b, x) ∈ need21 → h.get b = some x) (hc : concL ρ σ [gA, iA21, dateA 4] = some cs) : Calls Tryz.prog 9 cs.toArray w fun e w' => ∃ c, e = .returned c ∧ conc ρ σ (.bool false) = some c ∧ RowKit.Below w.heap.size w w' := by
  have n0 := hn 0 tensB (by simp [need21])
  have n1 := hn 1 powB (by simp [need21])
  have n13 := hn 13 colB (by simp [need21])
  have n14 := hn 14 (symB 3) (by simp [need21])
  have n15 := hn 15 ruleB (by simp [need21])
  have n21 := hn 21 (.cells 43 zero7 true true) (by simp [need21])
  obtain ⟨p, hp, ho⟩ := hH.blk 21 _ n21
  have hp7 : p.tot = 7 ∧ p.del = 0 := by
    obtain ⟨arr, fz, _, _, _, h4, _, _⟩ := ho
    have := h4 rfl
    exact ⟨this.1.symm, this.2⟩
  obtain ⟨pb, pd, pt⟩ := p
  obtain ⟨rfl, rfl⟩ : pt = 7 ∧ pd = 0 := hp7
  have R' : RhoD (ρ.at w) d v := ⟨R.loops, R.v0, R.v4⟩
  have hsm : small (blks 3 in0B) = true := rfl
  have mem : ∀ b x, (putL ⟨.e, 17⟩ (blks 3 in0B)).get b = some x → (b = 0 ∧ x = tensB) ∨ (b = 1 ∧ x = powB) ∨ (b = 13 ∧ x = colB) ∨ (b = 14 ∧ x = symB 3) ∨ (b = 15 ∧ x = ruleB) ∨ (b = 16 ∧ x = in0B) := fun b x hb => by
    have := putE_get hsm hb
    simpa [blks] using this
  let nm : Nat → Nat := fun b => if b = 16 then 21 else b
  have hnm : ∀ b p, sig21 σ b = some p → σ (nm b) = some p := fun b p hp => by
    unfold sig21 cut17 at hp
    show σ (if b = 16 then 21 else b) = some p
    split at hp
    · rename_i e; rw [if_pos e]; exact hp
    · rename_i e
      rw [if_neg e]
      split at hp
      · exact hp
      · cases hp
  have hown : ∀ b x, (putL ⟨.e, 17⟩ (blks 3 in0B)).get b = some x → ∃ y, h.get (nm b) = some y := fun b x hb => by
    rcases mem b x hb with ⟨rfl, rfl⟩ | ⟨rfl, rfl⟩ | ⟨rfl, rfl⟩ | ⟨rfl, rfl⟩ | ⟨rfl, rfl⟩ | ⟨rfl, rfl⟩
    · exact ⟨_, n0⟩
    · exact ⟨_, n1⟩
    · exact ⟨_, n13⟩
    · exact ⟨_, n14⟩
    · exact ⟨_, n15⟩
    · exact ⟨_, n21⟩
  have old : ∀ {b : Nat} {e : TypeId} {vs : List AV} {cs : List Value}, b < 16 → h.get b = some (.ro e vs) → (∀ (ρ : Rho) σ, concL ρ σ vs = some cs) → ∃ p, sig21 σ b = some p ∧ ORel (ρ.at w) (sig21 σ) p w.heap[p.blk]? (.ro e vs) := fun {b e vs cs} hb hg' hcc => by
    obtain ⟨q, hq, ho'⟩ := hH.blk b _ hg'
    exact ⟨q, by unfold sig21 cut17; rw [if_neg (by omega), if_pos (by omega)]; exact hq, ro_same ho' hcc⟩
  have hH' : HRel (ρ.at w) (sig21 σ) (putL ⟨.e, 17⟩ (blks 3 in0B)) w := by
    refine ⟨fun b x hb => ?_, fun b b' x x' p p' hb hb' hp hp' hne => ?_, fun b hb => ?_⟩
    · rcases mem b x hb with ⟨rfl, rfl⟩ | ⟨rfl, rfl⟩ | ⟨rfl, rfl⟩ | ⟨rfl, rfl⟩ | ⟨rfl, rfl⟩ | ⟨rfl, rfl⟩
      · exact old (by omega) n0 (fun _ _ => rfl)
      · exact old (by omega) n1 (fun _ _ => rfl)
      · exact old (by omega) n13 (fun _ _ => rfl)
      · exact old (by omega) n14 (fun _ _ => rfl)
      · exact old (by omega) n15 (fun _ _ => rfl)
      · exact ⟨_, hp, ro_new ho (fun _ _ => rfl)⟩
    · obtain ⟨y, hy⟩ := hown b x hb
      obtain ⟨y', hy'⟩ := hown b' x' hb'
      refine hH.inj (nm b) (nm b') y y' p p' hy hy' (hnm b p hp) (hnm b' p' hp') ?_
      show (if b = 16 then 21 else b) ≠ (if b' = 16 then 21 else b')
      have m1 : b < 17 := by rcases mem b x hb with ⟨h, _⟩ | ⟨h, _⟩ | ⟨h, _⟩ | ⟨h, _⟩ | ⟨h, _⟩ | ⟨h, _⟩ <;> omega
      have m2 : b' < 17 := by rcases mem b' x' hb' with ⟨h, _⟩ | ⟨h, _⟩ | ⟨h, _⟩ | ⟨h, _⟩ | ⟨h, _⟩ | ⟨h, _⟩ <;> omega
      split <;> split <;> omega
    · have hb : 17 ≤ b := by rw [putL_nx] at hb; exact hb
      unfold sig21 cut17
      rw [if_neg (by omega), if_neg (by omega)]
  exact (b_of R'.loops (extD0_ok R' d0 d1 v0 v1) (extD_none true).2.2 (gok21 hg) ((conc21 rfl hp).trans hc) rfl rfl hH' finD5).mono fun e w' ⟨h1, h2⟩ => ⟨_, h1, rfl, h2⟩
end Go.EvProp

namespace Go.EvProp
open Go Go.Ev Go.Proofs Go.RowKit
set_option maxRecDepth 100000

theorem extF_ok {ρ : Rho} {K : Nat} {p : List Nat} {q va : AV} {b : Bool} {lastF : List AV → H → Option (AV × H)}
    (h1 : ∀ σ h cs w, GOk Tryz.prog σ → HRel ρ σ h w → (∀ b x, (b, x) ∈ blks K inB → h.get b = some x) → concL ρ σ [gA, iA p q] = some cs → Calls Tryz.prog 8 cs.toArray w fun e w' => ∃ c, e = .returned c ∧ conc ρ σ (i6 0) = some c ∧ RowKit.Below w.heap.size w w')
    (h2 : ∀ σ h cs w, GOk Tryz.prog σ → HRel ρ σ h w → (∀ b x, (b, x) ∈ blks K inB → h.get b = some x) → concL ρ σ [gA, iA p q, va] = some cs → Calls Tryz.prog 9 cs.toArray w fun e w' => ∃ c, e = .returned c ∧ conc ρ σ (.bool b) = some c ∧ RowKit.Below w.heap.size w w')
    (h3 : ∀ σ h cs w, GOk Tryz.prog σ → HRel ρ σ h w → (∀ b x, (b, x) ∈ blks K inB → h.get b = some x) → concL ρ σ [gA, iA p q, noneA] = some cs → Calls Tryz.prog 9 cs.toArray w fun e w' => ∃ c, e = .returned c ∧ conc ρ σ (.bool false) = some c ∧ RowKit.Below w.heap.size w w')
    (h4 : ∀ σ h cs w, GOk Tryz.prog σ → HRel ρ σ h w → (∀ b x, (b, x) ∈ blks K inB → h.get b = some x) → concL ρ σ [gA, iA p q, textA] = some cs → Calls Tryz.prog 9 cs.toArray w fun e w' => ∃ c, e = .returned c ∧ conc ρ σ (.bool false) = some c ∧ RowKit.Below w.heap.size w w')
    (h5 : FnOk Tryz.prog ρ 9 lastF) (f : FuncId) (F : List AV → H → Option (AV × H)) (h : extF K p q va b lastF f = some F) : FnOk Tryz.prog ρ f F := by
  unfold extF at h
  simp only [bif_beq] at h
  split at h
  · rename_i e; subst e; cases h
    exact constF_ok Tryz.func8 (by decide) (by kernel_rfl) noneF_ok h1
  split at h
  · rename_i e; subst e; cases h
    exact constF_ok Tryz.func9 (by decide) (by kernel_rfl) (constF_ok Tryz.func9 (by decide) (by kernel_rfl) (constF_ok Tryz.func9 (by decide) (by kernel_rfl) h5 h4) h3) h2
  · exact extP_ok f F h

theorem extFD_ok {ρ : Rho} {d v : Int} (R : RhoD ρ d v) (d0 : 0 ≤ d) (d1 : d ≤ 3652058) (v0 : 0 ≤ v) (v1 : v ≤ 3652058) (le : Bool) (hle : decide (d ≤ v) = le) : ∀ f F, extF 3 nbf pD (dateA 4) le (constF [gA, iA21, dateA 4] (.bool false) need21 noneF) f = some F → FnOk Tryz.prog ρ f F := by
  have R' : RhoD (put45 ρ (.int .i64 d) (ρ.val 5)) d d := ⟨R.loops, R.v0, rfl⟩
  have hx' := extD_ok R' d0 d1 d0 d1 true (by simp)
  refine extF_ok (hc_i0 (ρ := ρ) (ρ' := put45 ρ (.int .i64 d) (ρ.val 5)) rfl rfl R.loops hx' (extD_none _).1 (fun σ => rfl) R.v0 R.v0 chkD) ?_
    (hc_b (ρ := ρ) (ρ' := put45 ρ (.int .i64 d) (ρ.val 5)) rfl rfl R.loops hx' (extD_none _).2.1 (fun σ => rfl) R.v0 R.v0 finD3)
    (hc_b (ρ := ρ) (ρ' := put45 ρ (.int .i64 d) (ρ.val 5)) rfl rfl R.loops hx' (extD_none _).2.1 (fun σ => rfl) R.v0 R.v0 finD4)
    (constF_ok Tryz.func9 (by decide) (by kernel_rfl) noneF_ok (hc21 R v0 v1 d0 d1))
  cases le with
  | true => exact hc_b (ρ := ρ) (ρ' := ρ) rfl rfl R.loops (extD_ok R d0 d1 v0 v1 true hle) (extD_none _).2.1 (fun σ => rfl) R.v0 R.v0 finDa
  | false => exact hc_b (ρ := ρ) (ρ' := ρ) rfl rfl R.loops (extD_ok R d0 d1 v0 v1 false hle) (extD_none _).2.1 (fun σ => rfl) R.v0 R.v0 finDb

theorem cmp_self (N2 : Int) (S2 : Nat) : orI (cmpI (wholeOf N2 S2) (wholeOf N2 S2)) (cmpI (partOf N2 S2) (partOf N2 S2)) = 0 := by unfold orI cmpI; simp


theorem extFN_ok {ρ : Rho} {d : Int} {s : ByteArray} {N2 : Int} {S2 : Nat} {N4 : Int} {S4 : Nat} (R : RhoN ρ d s N2 S2 N4 S4) (d0 : 0 ≤ d) (d1 : d ≤ 3652058) (h2 : RightD N2 S2) (hS2 : S2 ≤ 3) (h4 : RightD N4 S4) (hS4 : S4 ≤ 3) (hs : s.data.toList = txD (decide (N2 < 0)) N2.natAbs S2) (hz : 0 < s.size) (hb : begins (s[0]'hz)) {p : List Nat} {b : Bool} (hchk : isI0 (blks 2 inB) (runN (i6 0) 8 [gA, iA p (.sym 1)]) = true) (hno : isB false (blks 2 inB) (runN (i6 0) 9 [gA, iA p (.sym 1), noneA]) = true) (htx : isB false (blks 2 inB) (runN (i6 0) 9 [gA, iA p (.sym 1), textA]) = true)
    {c : AV} {r : Int} (hc : ∀ σ, conc ρ σ c = some (.int .i64 r)) (hr : orI (cmpI (wholeOf N4 S4) (wholeOf N2 S2)) (cmpI (partOf N4 S4) (partOf N2 S2)) = r) (hfin : isB b (blks 2 inB) (runN c 9 [gA, iA p (.sym 1), numA]) = true) : ∀ f F, extF 2 p (.sym 1) numA b noneF f = some F → FnOk Tryz.prog ρ f F := by
  have R' : RhoN (put45 ρ (.int .i64 N2) (.int .i64 S2)) d s N2 S2 N2 S2 := ⟨R.loops, R.v0, R.v1, R.v2, R.v3, rfl, rfl, R.t0, R.t1⟩
  have hx' := extN_ok R' d0 d1 h2 hS2 h2 hS2 hs hz hb (i6 0) 0 (fun _ => rfl) (cmp_self N2 S2)
  exact extF_ok (hc_i0 (ρ := ρ) (ρ' := put45 ρ (.int .i64 N2) (.int .i64 S2)) rfl rfl R.loops hx' (extN_none _).1 (fun σ => rfl) R.v0 R.v0 hchk)
    (hc_b (ρ := ρ) (ρ' := ρ) rfl rfl R.loops (extN_ok R d0 d1 h2 hS2 h4 hS4 hs hz hb c r hc hr) (extN_none _).2 (fun σ => rfl) R.v0 R.v0 hfin)
    (hc_b (ρ := ρ) (ρ' := put45 ρ (.int .i64 N2) (.int .i64 S2)) rfl rfl R.loops hx' (extN_none _).2 (fun σ => rfl) R.v0 R.v0 hno)
    (hc_b (ρ := ρ) (ρ' := put45 ρ (.int .i64 N2) (.int .i64 S2)) rfl rfl R.loops hx' (extN_none _).2 (fun σ => rfl) R.v0 R.v0 htx)
    noneF_ok

theorem extFL_ok {ρ : Rho} {d : Int} {s : ByteArray} {N2 : Int} {S2 : Nat} {N4 : Int} {S4 : Nat} (R : RhoN ρ d s N2 S2 N4 S4) (d0 : 0 ≤ d) (d1 : d ≤ 3652058) (h2 : RightD N2 S2) (hS2 : S2 ≤ 3) (h4 : RightD N4 S4) (hS4 : S4 ≤ 3) (hs : s.data.toList = txD (decide (N2 < 0)) N2.natAbs S2) (hz : 0 < s.size) (hb : begins (s[0]'hz)) : ∀ f F, extF 2 atl (.sym 1) numA (decide (0 ≤ orI (cmpI (wholeOf N4 S4) (wholeOf N2 S2)) (cmpI (partOf N4 S4) (partOf N2 S2)))) noneF f = some F → FnOk Tryz.prog ρ f F := by
  rcases cmp3 (wholeOf N4 S4) (wholeOf N2 S2) (partOf N4 S4) (partOf N2 S2) with hr | hr | hr
  · rw [hr]; exact extFN_ok R d0 d1 h2 hS2 h4 hS4 hs hz hb chkN1 finN3 finN4 (c := .int .i64 (.negSucc 0)) (r := -1) (fun _ => rfl) hr finN1a
  · rw [hr]; exact extFN_ok R d0 d1 h2 hS2 h4 hS4 hs hz hb chkN1 finN3 finN4 (c := i6 0) (r := 0) (fun _ => rfl) hr finN1b
  · rw [hr]; exact extFN_ok R d0 d1 h2 hS2 h4 hS4 hs hz hb chkN1 finN3 finN4 (c := i6 1) (r := 1) (fun _ => rfl) hr finN1c
theorem extFM_ok {ρ : Rho} {d : Int} {s : ByteArray} {N2 : Int} {S2 : Nat} {N4 : Int} {S4 : Nat} (R : RhoN ρ d s N2 S2 N4 S4) (d0 : 0 ≤ d) (d1 : d ≤ 3652058) (h2 : RightD N2 S2) (hS2 : S2 ≤ 3) (h4 : RightD N4 S4) (hS4 : S4 ≤ 3) (hs : s.data.toList = txD (decide (N2 < 0)) N2.natAbs S2) (hz : 0 < s.size) (hb : begins (s[0]'hz)) : ∀ f F, extF 2 atm (.sym 1) numA (decide (orI (cmpI (wholeOf N4 S4) (wholeOf N2 S2)) (cmpI (partOf N4 S4) (partOf N2 S2)) ≤ 0)) noneF f = some F → FnOk Tryz.prog ρ f F := by
  rcases cmp3 (wholeOf N4 S4) (wholeOf N2 S2) (partOf N4 S4) (partOf N2 S2) with hr | hr | hr
  · rw [hr]; exact extFN_ok R d0 d1 h2 hS2 h4 hS4 hs hz hb chkN2 finN5 finN6 (c := .int .i64 (.negSucc 0)) (r := -1) (fun _ => rfl) hr finN2a
  · rw [hr]; exact extFN_ok R d0 d1 h2 hS2 h4 hS4 hs hz hb chkN2 finN5 finN6 (c := i6 0) (r := 0) (fun _ => rfl) hr finN2b
  · rw [hr]; exact extFN_ok R d0 d1 h2 hS2 h4 hS4 hs hz hb chkN2 finN5 finN6 (c := i6 1) (r := 1) (fun _ => rfl) hr finN2c
end Go.EvProp
