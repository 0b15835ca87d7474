/-
  sanity() returns true, and Check and Fine answer as told.
-/
import Derived.Test.YtcooocbhkkmiaaaGreatDoorConA
import Derived.Test.YtcooocbhkkmiaaaGreatDoorRunS
set_option linter.all false
namespace Go.EvProp
open Go Go.Ev Go.Proofs Go.RowKit
set_option maxRecDepth 100000

/-- The law's grammar and item lie in these blocks. -/
structure LawB (w : World) (bc bs br bi : Nat) (K : Nat) (inp : Array Value) : Prop where
  tens : TensAt w
  pow : PowAt w
  c : w.heap[bc]? = some (.cells #[.string ⟨#[100]⟩, .int .i64 3] 28 (0, 0))
  s : w.heap[bs]? = some (.cells #[.string ⟨#[88]⟩, .int .i64 K, .int .i64 1] 31 (0, 0))
  r : w.heap[br]? = some (.cells #[.int .i64 0, .string ⟨#[99, 111, 108]⟩, .string ⟨#[100]⟩, .slice none 0 0] 34 (0, 0))
  i : w.heap[bi]? = some (.cells inp 43 (0, 0))
  ge : 13 ≤ bc ∧ 13 ≤ bs ∧ 13 ≤ br ∧ 13 ≤ bi
  ne : bc ≠ bs ∧ bc ≠ br ∧ bc ≠ bi ∧ bs ≠ br ∧ bs ≠ bi ∧ br ≠ bi

def sigL (bc bs br bi : Nat) : Sig := fun b => if b < 13 then some ⟨b, 0, 0⟩ else if b = 13 then some ⟨bc, 0, 2⟩ else if b = 14 then some ⟨bs, 0, 3⟩ else if b = 15 then some ⟨br, 0, 4⟩ else if b = 16 then some ⟨bi, 0, 7⟩ else none
theorem gokL (bc bs br bi : Nat) : GOk Tryz.prog (sigL bc bs br bi) := fun k hk => ⟨0, by rw [gsize] at hk; simp [sigL, hk]⟩

theorem contOf_eq {w : World} {b : Nat} {arr : Array Value} {t : TypeId} {fz : Nat × Nat} (h : w.heap[b]? = some (.cells arr t fz)) : contOf w b = arr := by simp [contOf, h]
theorem ro_of {ρ : Rho} {σ : Sig} {w : World} {b del tot : Nat} {arr : Array Value} {t : TypeId} {fz : Nat × Nat} {vs : List AV} (ht : ρ.tl = contOf w) (hz : ρ.fz = fzOf w) (h : w.heap[b]? = some (.cells arr t fz)) {cs : List Value} (hc : concL ρ σ vs = some cs) (ha : arr = cs.toArray) (hd : del = 0) : ORel ρ σ ⟨b, del, tot⟩ w.heap[b]? (.ro t vs) := by
  subst hd
  refine ⟨cs, hc, ?_, fun i hi => ?_⟩
  · rw [ht, hz]
    have e1 : contOf w b = arr := contOf_eq h
    have e2 : fzOf w b = fz := by simp [fzOf, h]
    show w.heap[b]? = some (.cells (contOf w b) t (fzOf w b))
    rw [e1, e2]; exact h
  · rw [ht]
    show (contOf w b)[0 + i]? = cs[i]?
    rw [contOf_eq h, ha, Nat.zero_add]
    simp

theorem hrelL {ρ : Rho} {w : World} {bc bs br bi K : Nat} {inp : Array Value} {inB' : List AV} {ci : List Value} (L : LawB w bc bs br bi K inp) (ht : ρ.tl = contOf w) (hz : ρ.fz = fzOf w) (hci : concL ρ (sigL bc bs br bi) inB' = some ci) (hin : inp = ci.toArray) : HRel ρ (sigL bc bs br bi) (putL ⟨.e, 17⟩ (blks K (.ro 43 inB'))) w := by
  have hsm : small (blks K (.ro 43 inB')) = true := rfl
  obtain ⟨f0, t0⟩ := L.tens
  obtain ⟨f1, t1⟩ := L.pow
  have mem : ∀ b x, (putL ⟨.e, 17⟩ (blks K (.ro 43 inB'))).get b = some x → (b = 0 ∧ x = tensB) ∨ (b = 1 ∧ x = powB) ∨ (b = 13 ∧ x = colB) ∨ (b = 14 ∧ x = symB K) ∨ (b = 15 ∧ x = ruleB) ∨ (b = 16 ∧ x = .ro 43 inB') := fun b x hb => by
    have := putE_get hsm hb
    simpa [blks] using this
  have sg : ∀ b p, sigL bc bs br bi b = some p → (b = 0 ∨ b = 1 ∨ b = 13 ∨ b = 14 ∨ b = 15 ∨ b = 16) → (b = 0 ∧ p.blk = 0) ∨ (b = 1 ∧ p.blk = 1) ∨ (b = 13 ∧ p.blk = bc) ∨ (b = 14 ∧ p.blk = bs) ∨ (b = 15 ∧ p.blk = br) ∨ (b = 16 ∧ p.blk = bi) := fun b p hp hb => by
    rcases hb with rfl | rfl | rfl | rfl | rfl | rfl <;> simp [sigL] at hp <;> subst hp <;> simp
  have hge := L.ge
  have hne := L.ne
  refine ⟨fun b x hb => ?_, fun b b' x x' p p' hb hb' hp hp' hne' => ?_, fun b hb => ?_⟩
  · rcases mem b x hb with ⟨rfl, rfl⟩ | ⟨rfl, rfl⟩ | ⟨rfl, rfl⟩ | ⟨rfl, rfl⟩ | ⟨rfl, rfl⟩ | ⟨rfl, rfl⟩
    · exact ⟨⟨0, 0, 0⟩, rfl, ro_of ht hz t0 (cs := [.int .i64 1, .int .i64 10, .int .i64 100, .int .i64 1000, .int .i64 10000, .int .i64 100000, .int .i64 1000000]) rfl rfl rfl⟩
    · exact ⟨⟨1, 0, 0⟩, rfl, ro_of ht hz t1 (cs := Lib.pow10Tab.map fun z => Value.int .u64 z) rfl rfl rfl⟩
    · exact ⟨⟨bc, 0, 2⟩, rfl, ro_of ht hz L.c (cs := [.string ⟨#[100]⟩, .int .i64 3]) rfl rfl rfl⟩
    · exact ⟨⟨bs, 0, 3⟩, rfl, ro_of ht hz L.s (cs := [.string ⟨#[88]⟩, .int .i64 K, .int .i64 1]) rfl rfl rfl⟩
    · exact ⟨⟨br, 0, 4⟩, rfl, ro_of ht hz L.r (cs := [.int .i64 0, .string ⟨#[99, 111, 108]⟩, .string ⟨#[100]⟩, .slice none 0 0]) rfl rfl rfl⟩
    · exact ⟨⟨bi, 0, 7⟩, rfl, ro_of ht hz L.i hci hin rfl⟩
  · have m1 : b = 0 ∨ b = 1 ∨ b = 13 ∨ b = 14 ∨ b = 15 ∨ b = 16 := by rcases mem b x hb with ⟨h, _⟩ | ⟨h, _⟩ | ⟨h, _⟩ | ⟨h, _⟩ | ⟨h, _⟩ | ⟨h, _⟩ <;> omega
    have m2 : b' = 0 ∨ b' = 1 ∨ b' = 13 ∨ b' = 14 ∨ b' = 15 ∨ b' = 16 := by rcases mem b' x' hb' with ⟨h, _⟩ | ⟨h, _⟩ | ⟨h, _⟩ | ⟨h, _⟩ | ⟨h, _⟩ | ⟨h, _⟩ <;> omega
    have s1 := sg b p hp m1
    have s2 := sg b' p' hp' m2
    omega
  · have hb : 17 ≤ b := by rw [putL_nx] at hb; exact hb
    unfold sigL
    rw [if_neg (by omega), if_neg (by omega), if_neg (by omega), if_neg (by omega), if_neg (by omega)]

theorem i0_of {ρ : Rho} (hρ : ρ.loops = loopsOf Tryz.prog) {ext : Ext1} (hx : ∀ f F, ext f = some F → FnOk Tryz.prog ρ f F) {f : FuncId} (hf : ext f = none) {σ : Sig} {args : List AV} {l : Blks} {cs : List Value} {w : World} (hg : GOk Tryz.prog σ) (hargs : concL ρ σ args = some cs) (hs : small l = true) (hr : allRo l = true) (hH : HRel ρ σ (putL ⟨.e, 17⟩ l) w) (hrun : isI0 l ((envK Tryz.prog ext tabT.find 1000).call f args (putL ⟨.e, 17⟩ l)) = true) : Calls Tryz.prog f cs.toArray w fun e w' => e = .returned (.int .i64 0) ∧ RowKit.Below w.heap.size w w' := by
  unfold isI0 at hrun
  split at hrun
  · rename_i h' hv
    refine (ro_calls follows hρ (BT.find_ok tabT_ok) hx hf hg hargs hs hr hH hv hrun).mono ?_
    rintro e w' ⟨c, σ', rfl, L⟩
    have : c = .int .i64 0 := Option.some.inj (L.v.symm.trans rfl)
    subst this
    exact ⟨rfl, L.b⟩
  · cases hrun
theorem b_of {ρ : Rho} (hρ : ρ.loops = loopsOf Tryz.prog) {ext : Ext1} (hx : ∀ f F, ext f = some F → FnOk Tryz.prog ρ f F) {f : FuncId} (hf : ext f = none) {σ : Sig} {args : List AV} {l : Blks} {cs : List Value} {w : World} (hg : GOk Tryz.prog σ) (hargs : concL ρ σ args = some cs) (hs : small l = true) (hr : allRo l = true) (hH : HRel ρ σ (putL ⟨.e, 17⟩ l) w) {b : Bool} (hrun : isB b l ((envK Tryz.prog ext tabT.find 1000).call f args (putL ⟨.e, 17⟩ l)) = true) : Calls Tryz.prog f cs.toArray w fun e w' => RetBool b e ∧ RowKit.Below w.heap.size w w' := by
  unfold isB at hrun
  split at hrun
  · rename_i x h' hv
    simp only [Bool.and_eq_true] at hrun
    have hxb : x = b := eq_of_beq hrun.1
    subst hxb
    refine (ro_calls follows hρ (BT.find_ok tabT_ok) hx hf hg hargs hs hr hH hv hrun.2).mono ?_
    rintro e w' ⟨c, σ', rfl, L⟩
    have : c = .bool x := Option.some.inj (L.v.symm.trans rfl)
    subst this
    exact ⟨rfl, L.b⟩
  · cases hrun

/-- The grammar and the item, as the law hands them on. -/
def gV (bc bs br : Nat) : Value := .agg #[.string ⟨#[103]⟩, .int .i64 0, .slice (some ⟨bc, 0, none⟩) 1 1, .slice (some ⟨bs, 0, none⟩) 1 1, .slice (some ⟨br, 0, none⟩) 1 1, .int .i64 0]
def iV (bi : Nat) (prop param : ByteArray) : Value := .agg #[.int .i64 1, .int .i64 1, .int .i64 0, .int .i64 0, .int .i64 3, .slice (some ⟨bi, 0, none⟩) 1 1, .int .i64 0, .string ⟨#[]⟩, .int .i64 0, .int .i64 0, .int .i64 0, .slice none 0 0, .slice none 0 0, .string prop, .string param, .slice none 0 0]

theorem conc_g {ρ : Rho} (bc bs br bi : Nat) : conc ρ (sigL bc bs br bi) gA = some (gV bc bs br) := rfl
theorem conc_i {ρ : Rho} (bc bs br bi : Nat) (prop : List Nat) (hp : prop.all (fun n => n < 256) = true) (param : AV) (s : ByteArray) (hs : conc ρ (sigL bc bs br bi) param = some (.string s)) : conc ρ (sigL bc bs br bi) (iA prop param) = some (iV bi (bytesOf prop) s) := by
  have h1 : conc ρ (sigL bc bs br bi) (.str prop) = some (.string (bytesOf prop)) := strOf prop hp ρ _
  simp only [iA, zero7, i6, List.cons_append, List.nil_append]
  have h2 : conc ρ (sigL bc bs br bi) (.slice 16 0 1 7 (some 1)) = some (.slice (some ⟨bi, 0, none⟩) 1 1) := rfl
  simp only [conc, concL] at h1 h2 ⊢
  rw [h1, hs]
  rfl
end Go.EvProp

namespace Go.EvProp
open Go Go.Ev Go.Proofs Go.RowKit
set_option maxRecDepth 100000

theorem rhoN_of (w : World) (hT : TensAt w) (hP : PowAt w) (d : Int) (s : ByteArray) (N2 : Int) (S2 : Nat) (N4 : Int) (S4 : Nat) : ∃ ρ : Rho, RhoN ρ d s N2 S2 N4 S4 ∧ ρ.tl = contOf w ∧ ρ.fz = fzOf w := by
  obtain ⟨f0, t0⟩ := hT
  obtain ⟨f1, t1⟩ := hP
  exact ⟨⟨fun i => if i = 0 then .int .i64 d else if i = 1 then .string s else if i = 2 then .int .i64 N2 else if i = 3 then .int .i64 S2 else if i = 4 then .int .i64 N4 else .int .i64 S4, loopsOf Tryz.prog, fzOf w, contOf w⟩, ⟨rfl, rfl, rfl, rfl, rfl, rfl, rfl, contOf_eq t0, contOf_eq t1⟩, rfl, rfl⟩
theorem rhoD_of (w : World) (d v : Int) : ∃ ρ : Rho, RhoD ρ d v ∧ ρ.tl = contOf w ∧ ρ.fz = fzOf w :=
  ⟨⟨fun i => if i = 0 then .int .i64 d else .int .i64 v, loopsOf Tryz.prog, fzOf w, contOf w⟩, ⟨rfl, rfl, rfl⟩, rfl, rfl⟩

theorem conc_in {ρ : Rho} {σ : Sig} {d : Int} (h : ρ.val 0 = .int .i64 d) : concL ρ σ [i6 3, .str [], i6 0, i6 0, .sym 0, .nilslice, .nilslice] = some [.int .i64 3, .string ⟨#[]⟩, .int .i64 0, .int .i64 0, .int .i64 d, .slice none 0 0, .slice none 0 0] := by
  have h1 : conc ρ σ (.sym 0) = some (.int .i64 d) := by simp [conc, h, one]
  simp only [i6, conc, concL] at h1 ⊢
  rw [h1]
  rfl

def atlB : ByteArray := bytesOf atl
def atmB : ByteArray := bytesOf atm
def nbfB : ByteArray := bytesOf nbf

/-- What is known of the bound and of its text. -/
structure NumW (w : World) (bc bs br bi : Nat) (d : Int) (s : ByteArray) (N2 : Int) (S2 : Nat) : Prop where
  L : LawB w bc bs br bi 2 (dateC d)
  d0 : 0 ≤ d
  d1 : d ≤ 3652058
  h2 : RightD N2 S2
  S2le : S2 ≤ 3
  hs : s.data.toList = txD (decide (N2 < 0)) N2.natAbs S2
  hz : ∃ hz : 0 < s.size, begins (s[0]'hz)

section
variable {w : World} {bc bs br bi : Nat} {d : Int} {s : ByteArray} {N2 : Int} {S2 : Nat}

theorem numRun (W : NumW w bc bs br bi d s N2 S2) (N4 : Int) (S4 : Nat) (h4 : RightD N4 S4) (hS4 : S4 ≤ 3) (c : AV) (r : Int) (hc : ∀ (ρ : Rho) (σ : Sig), conc ρ σ c = some (.int .i64 r)) (hr : orI (cmpI (wholeOf N4 S4) (wholeOf N2 S2)) (cmpI (partOf N4 S4) (partOf N2 S2)) = r) :
    ∃ ρ : Rho, RhoN ρ d s N2 S2 N4 S4 ∧ (∀ f F, extN c f = some F → FnOk Tryz.prog ρ f F) ∧ HRel ρ (sigL bc bs br bi) (putL ⟨.e, 17⟩ (blks 2 inB)) w := by
  obtain ⟨hz, hb⟩ := W.hz
  obtain ⟨ρ, R, ht, hf⟩ := rhoN_of w W.L.tens W.L.pow d s N2 S2 N4 S4
  exact ⟨ρ, R, extN_ok R W.d0 W.d1 W.h2 W.S2le h4 hS4 W.hs hz hb c r (hc ρ) hr, hrelL W.L ht hf (conc_in R.v0) rfl⟩

theorem cmp3 (a b x y : Int) : orI (cmpI a b) (cmpI x y) = -1 ∨ orI (cmpI a b) (cmpI x y) = 0 ∨ orI (cmpI a b) (cmpI x y) = 1 := by
  unfold orI cmpI
  repeat' split
  all_goals omega

theorem sym1 {ρ : Rho} {N4 : Int} {S4 : Nat} (R : RhoN ρ d s N2 S2 N4 S4) (σ : Sig) : conc ρ σ (.sym 1) = some (.string s) := by simp [conc, R.v1, one]

theorem argsN {ρ : Rho} {N4 : Int} {S4 : Nat} (R : RhoN ρ d s N2 S2 N4 S4) (prop : List Nat) (hp : prop.all (fun n => n < 256) = true) : concL ρ (sigL bc bs br bi) [gA, iA prop (.sym 1)] = some [gV bc bs br, iV bi (bytesOf prop) s] := by
  simp only [concL]
  rw [conc_g, conc_i bc bs br bi prop hp (.sym 1) s (sym1 R _)]
theorem argsN3 {ρ : Rho} {N4 : Int} {S4 : Nat} (R : RhoN ρ d s N2 S2 N4 S4) (prop : List Nat) (hp : prop.all (fun n => n < 256) = true) (a : AV) (v : Value) (ha : conc ρ (sigL bc bs br bi) a = some v) : concL ρ (sigL bc bs br bi) [gA, iA prop (.sym 1), a] = some [gV bc bs br, iV bi (bytesOf prop) s, v] := by
  simp only [concL]
  rw [conc_g, conc_i bc bs br bi prop hp (.sym 1) s (sym1 R _), ha]

theorem extN_none (c : AV) : extN c 8 = none ∧ extN c 9 = none := ⟨rfl, rfl⟩

theorem check_num (W : NumW w bc bs br bi d s N2 S2) (prop : ByteArray) (hp : prop = atlB ∨ prop = atmB) : Calls Tryz.prog 8 #[gV bc bs br, iV bi prop s] w fun e w' => e = .returned (.int .i64 0) ∧ RowKit.Below w.heap.size w w' := by
  have hz : orI (cmpI (wholeOf N2 S2) (wholeOf N2 S2)) (cmpI (partOf N2 S2) (partOf N2 S2)) = 0 := by unfold orI cmpI; simp
  obtain ⟨ρ, R, hx, hH⟩ := numRun W N2 S2 W.h2 W.S2le (i6 0) 0 (fun _ _ => rfl) hz
  rcases hp with rfl | rfl
  · exact i0_of R.loops hx (extN_none _).1 (gokL bc bs br bi) (argsN R atl (by decide)) rfl rfl hH chkN1
  · exact i0_of R.loops hx (extN_none _).1 (gokL bc bs br bi) (argsN R atm (by decide)) rfl rfl hH chkN2

theorem fine_atl (W : NumW w bc bs br bi d s N2 S2) (N4 : Int) (S4 : Nat) (h4 : RightD N4 S4) (hS4 : S4 ≤ 3) : Calls Tryz.prog 9 #[gV bc bs br, iV bi atlB s, .agg (numC N4 S4)] w fun e w' => RetBool (decide (0 ≤ orI (cmpI (wholeOf N4 S4) (wholeOf N2 S2)) (cmpI (partOf N4 S4) (partOf N2 S2)))) e ∧ RowKit.Below w.heap.size w w' := by
  rcases cmp3 (wholeOf N4 S4) (wholeOf N2 S2) (partOf N4 S4) (partOf N2 S2) with hr | hr | hr
  · obtain ⟨ρ, R, hx, hH⟩ := numRun W N4 S4 h4 hS4 (.int .i64 (.negSucc 0)) (-1) (fun _ _ => rfl) hr
    rw [hr]
    exact b_of R.loops hx (extN_none _).2 (gokL bc bs br bi) (argsN3 R atl (by decide) numA _ (conc_num R.v4 R.v5)) rfl rfl hH finN1a
  · obtain ⟨ρ, R, hx, hH⟩ := numRun W N4 S4 h4 hS4 (i6 0) 0 (fun _ _ => rfl) hr
    rw [hr]
    exact b_of R.loops hx (extN_none _).2 (gokL bc bs br bi) (argsN3 R atl (by decide) numA _ (conc_num R.v4 R.v5)) rfl rfl hH finN1b
  · obtain ⟨ρ, R, hx, hH⟩ := numRun W N4 S4 h4 hS4 (i6 1) 1 (fun _ _ => rfl) hr
    rw [hr]
    exact b_of R.loops hx (extN_none _).2 (gokL bc bs br bi) (argsN3 R atl (by decide) numA _ (conc_num R.v4 R.v5)) rfl rfl hH finN1c
theorem fine_atm (W : NumW w bc bs br bi d s N2 S2) (N4 : Int) (S4 : Nat) (h4 : RightD N4 S4) (hS4 : S4 ≤ 3) : Calls Tryz.prog 9 #[gV bc bs br, iV bi atmB s, .agg (numC N4 S4)] w fun e w' => RetBool (decide (orI (cmpI (wholeOf N4 S4) (wholeOf N2 S2)) (cmpI (partOf N4 S4) (partOf N2 S2)) ≤ 0)) e ∧ RowKit.Below w.heap.size w w' := by
  rcases cmp3 (wholeOf N4 S4) (wholeOf N2 S2) (partOf N4 S4) (partOf N2 S2) with hr | hr | hr
  · obtain ⟨ρ, R, hx, hH⟩ := numRun W N4 S4 h4 hS4 (.int .i64 (.negSucc 0)) (-1) (fun _ _ => rfl) hr
    rw [hr]
    exact b_of R.loops hx (extN_none _).2 (gokL bc bs br bi) (argsN3 R atm (by decide) numA _ (conc_num R.v4 R.v5)) rfl rfl hH finN2a
  · obtain ⟨ρ, R, hx, hH⟩ := numRun W N4 S4 h4 hS4 (i6 0) 0 (fun _ _ => rfl) hr
    rw [hr]
    exact b_of R.loops hx (extN_none _).2 (gokL bc bs br bi) (argsN3 R atm (by decide) numA _ (conc_num R.v4 R.v5)) rfl rfl hH finN2b
  · obtain ⟨ρ, R, hx, hH⟩ := numRun W N4 S4 h4 hS4 (i6 1) 1 (fun _ _ => rfl) hr
    rw [hr]
    exact b_of R.loops hx (extN_none _).2 (gokL bc bs br bi) (argsN3 R atm (by decide) numA _ (conc_num R.v4 R.v5)) rfl rfl hH finN2c

/-- The result that does not exist, and a text. -/
def noneV : Value := .agg #[.int .i64 0, .string ⟨#[]⟩, .int .i64 0, .int .i64 0, .int .i64 18, .slice none 0 0, .slice none 0 0]
def textV : Value := .agg #[.int .i64 1, .string ⟨#[]⟩, .int .i64 0, .int .i64 0, .int .i64 0, .slice none 0 0, .slice none 0 0]

theorem fine_num_no (W : NumW w bc bs br bi d s N2 S2) (prop : ByteArray) (hp : prop = atlB ∨ prop = atmB) (v : Value) (hv : v = noneV ∨ v = textV) : Calls Tryz.prog 9 #[gV bc bs br, iV bi prop s, v] w fun e w' => RetBool false e ∧ RowKit.Below w.heap.size w w' := by
  have hz : orI (cmpI (wholeOf N2 S2) (wholeOf N2 S2)) (cmpI (partOf N2 S2) (partOf N2 S2)) = 0 := by unfold orI cmpI; simp
  obtain ⟨ρ, R, hx, hH⟩ := numRun W N2 S2 W.h2 W.S2le (i6 0) 0 (fun _ _ => rfl) hz
  rcases hp with rfl | rfl <;> rcases hv with rfl | rfl
  · exact b_of R.loops hx (extN_none _).2 (gokL bc bs br bi) (argsN3 R atl (by decide) noneA _ rfl) rfl rfl hH finN3
  · exact b_of R.loops hx (extN_none _).2 (gokL bc bs br bi) (argsN3 R atl (by decide) textA _ rfl) rfl rfl hH finN4
  · exact b_of R.loops hx (extN_none _).2 (gokL bc bs br bi) (argsN3 R atm (by decide) noneA _ rfl) rfl rfl hH finN5
  · exact b_of R.loops hx (extN_none _).2 (gokL bc bs br bi) (argsN3 R atm (by decide) textA _ rfl) rfl rfl hH finN6
end

section
variable {w : World} {bc bs br bi : Nat} {d : Int}
theorem argsD {ρ : Rho} : concL ρ (sigL bc bs br bi) [gA, iA nbf pD] = some [gV bc bs br, iV bi nbfB ⟨#[100]⟩] := by
  simp only [concL]
  rw [conc_g, conc_i bc bs br bi nbf (by decide) pD ⟨#[100]⟩ rfl]
  rfl
theorem argsD3 {ρ : Rho} (a : AV) (v : Value) (ha : conc ρ (sigL bc bs br bi) a = some v) : concL ρ (sigL bc bs br bi) [gA, iA nbf pD, a] = some [gV bc bs br, iV bi nbfB ⟨#[100]⟩, v] := by
  simp only [concL]
  rw [conc_g, conc_i bc bs br bi nbf (by decide) pD ⟨#[100]⟩ rfl, ha]
  rfl
theorem extD_none (le : Bool) : extD le 8 = none ∧ extD le 9 = none ∧ extD0 9 = none := ⟨rfl, rfl, rfl⟩

theorem check_date (L : LawB w bc bs br bi 3 (dateC d)) (d0 : 0 ≤ d) (d1 : d ≤ 3652058) : Calls Tryz.prog 8 #[gV bc bs br, iV bi nbfB ⟨#[100]⟩] w fun e w' => e = .returned (.int .i64 0) ∧ RowKit.Below w.heap.size w w' := by
  obtain ⟨ρ, R, ht, hf⟩ := rhoD_of w d d
  exact i0_of R.loops (extD_ok R d0 d1 d0 d1 true (by simp)) (extD_none _).1 (gokL bc bs br bi) argsD rfl rfl (hrelL L ht hf (conc_in R.v0) rfl) chkD
theorem fine_date (L : LawB w bc bs br bi 3 (dateC d)) (d0 : 0 ≤ d) (d1 : d ≤ 3652058) (v : Int) (v0 : 0 ≤ v) (v1 : v ≤ 3652058) : Calls Tryz.prog 9 #[gV bc bs br, iV bi nbfB ⟨#[100]⟩, .agg (dateC v)] w fun e w' => RetBool (decide (d ≤ v)) e ∧ RowKit.Below w.heap.size w w' := by
  obtain ⟨ρ, R, ht, hf⟩ := rhoD_of w d v
  cases hle : decide (d ≤ v) with
  | true => exact b_of R.loops (extD_ok R d0 d1 v0 v1 true hle) (extD_none _).2.1 (gokL bc bs br bi) (argsD3 (dateA 4) _ (conc_date R.v4)) rfl rfl (hrelL L ht hf (conc_in R.v0) rfl) finDa
  | false => exact b_of R.loops (extD_ok R d0 d1 v0 v1 false hle) (extD_none _).2.1 (gokL bc bs br bi) (argsD3 (dateA 4) _ (conc_date R.v4)) rfl rfl (hrelL L ht hf (conc_in R.v0) rfl) finDb
theorem fine_date_no (L : LawB w bc bs br bi 3 (dateC d)) (d0 : 0 ≤ d) (d1 : d ≤ 3652058) (v : Value) (hv : v = noneV ∨ v = textV) : Calls Tryz.prog 9 #[gV bc bs br, iV bi nbfB ⟨#[100]⟩, v] w fun e w' => RetBool false e ∧ RowKit.Below w.heap.size w w' := by
  obtain ⟨ρ, R, ht, hf⟩ := rhoD_of w d d
  rcases hv with rfl | rfl
  · exact b_of R.loops (extD_ok R d0 d1 d0 d1 true (by simp)) (extD_none _).2.1 (gokL bc bs br bi) (argsD3 noneA _ rfl) rfl rfl (hrelL L ht hf (conc_in R.v0) rfl) finD3
  · exact b_of R.loops (extD_ok R d0 d1 d0 d1 true (by simp)) (extD_none _).2.1 (gokL bc bs br bi) (argsD3 textA _ rfl) rfl rfl (hrelL L ht hf (conc_in R.v0) rfl) finD4
theorem fine_date_empty (L : LawB w bc bs br bi 3 zeroV) (v : Int) (v0 : 0 ≤ v) (v1 : v ≤ 3652058) : Calls Tryz.prog 9 #[gV bc bs br, iV bi nbfB ⟨#[100]⟩, .agg (dateC v)] w fun e w' => RetBool false e ∧ RowKit.Below w.heap.size w w' := by
  obtain ⟨ρ, R, ht, hf⟩ := rhoD_of w v v
  exact b_of R.loops (extD0_ok R v0 v1 v0 v1) (extD_none true).2.2 (gokL bc bs br bi) (argsD3 (dateA 4) _ (conc_date R.v4)) rfl rfl (hrelL L ht hf (inB' := zero7) (ci := [.int .i64 0, .string ⟨#[]⟩, .int .i64 0, .int .i64 0, .int .i64 0, .slice none 0 0, .slice none 0 0]) rfl rfl) finD5
end
end Go.EvProp

namespace Go.EvProp
open Go Go.Ev Go.Proofs Go.RowKit
set_option maxRecDepth 100000

theorem extM_ok {ρ : Rho} (hρ : ρ.loops = loopsOf Tryz.prog) (f : FuncId) (F : List AV → H → Option (AV × H)) (h : extM f = some F) : FnOk Tryz.prog ρ f F := by
  have E := envP_ok hρ 3000
  unfold extM at h
  simp only [bif_beq] at h
  split at h
  · rename_i e; subst e; cases h
    refine memos_ok fun q hq => ?_
    simp only [List.mem_cons, List.mem_nil_iff, or_false] at hq
    subst hq
    exact memo_ok (E.call _) memo0_run
  split at h
  · rename_i e; subst e; cases h
    refine memos_ok fun q hq => ?_
    simp only [List.mem_cons, List.mem_nil_iff, or_false] at hq
    rcases hq with rfl | rfl | rfl | rfl | rfl | rfl
    · exact memo_ok (E.call _) memo1_run
    · exact memo_ok (E.call _) memo2_run
    · exact memo_ok (E.call _) memo4_run
    · exact memo_ok (E.call _) memo5_run
    · exact memo_ok (E.call _) memo7_run
    · exact memo_ok (E.call _) memo8_run
  split at h
  · rename_i e; subst e; cases h
    refine memos_ok fun q hq => ?_
    simp only [List.mem_cons, List.mem_nil_iff, or_false] at hq
    rcases hq with rfl | rfl
    · exact memo_ok (E.call _) memo3_run
    · exact memo_ok (E.call _) memo6_run
  split at h
  · rename_i e; subst e; cases h
    refine memos_ok fun q hq => ?_
    simp only [List.mem_cons, List.mem_nil_iff, or_false] at hq
    subst hq
    exact memo_ok (E.call _) memo9_run
  · exact extP_ok f F h

def sig0 : Sig := fun b => if b < 13 then some ⟨b, 0, 0⟩ else none
theorem gok0 : GOk Tryz.prog sig0 := fun k hk => ⟨0, by rw [gsize] at hk; simp [sig0, hk]⟩
def blk0 : Blks := [(0, tensB), (1, powB)]
theorem h0_put : h0 = putL ⟨.e, 13⟩ blk0 := rfl

theorem hrel0 {ρ : Rho} {w : World} (hT : TensAt w) (hP : PowAt w) (ht : ρ.tl = contOf w) (hz : ρ.fz = fzOf w) : HRel ρ sig0 (putL ⟨.e, 13⟩ blk0) w := by
  have hsm : small blk0 = true := rfl
  obtain ⟨f0, t0⟩ := hT
  obtain ⟨f1, t1⟩ := hP
  have mem : ∀ b x, (putL ⟨.e, 13⟩ blk0).get b = some x → (b = 0 ∧ x = tensB) ∨ (b = 1 ∧ x = powB) := fun b x hb => by
    have := putE_get hsm hb
    simpa [blk0] using this
  have sg : ∀ b p, sig0 b = some p → (b = 0 ∨ b = 1) → (b = 0 ∧ p.blk = 0) ∨ (b = 1 ∧ p.blk = 1) := fun b p hp hb => by
    rcases hb with rfl | rfl <;> simp [sig0] at hp <;> subst hp <;> simp
  refine ⟨fun b x hb => ?_, fun b b' x x' p p' hb hb' hp hp' hne' => ?_, fun b hb => ?_⟩
  · rcases mem b x hb with ⟨rfl, rfl⟩ | ⟨rfl, rfl⟩
    · exact ⟨⟨0, 0, 0⟩, rfl, ro_of ht hz t0 (cs := [.int .i64 1, .int .i64 10, .int .i64 100, .int .i64 1000, .int .i64 10000, .int .i64 100000, .int .i64 1000000]) rfl rfl rfl⟩
    · exact ⟨⟨1, 0, 0⟩, rfl, ro_of ht hz t1 (cs := Lib.pow10Tab.map fun z => Value.int .u64 z) rfl rfl rfl⟩
  · have m1 : b = 0 ∨ b = 1 := by rcases mem b x hb with ⟨h, _⟩ | ⟨h, _⟩ <;> omega
    have m2 : b' = 0 ∨ b' = 1 := by rcases mem b' x' hb' with ⟨h, _⟩ | ⟨h, _⟩ <;> omega
    have s1 := sg b p hp m1
    have s2 := sg b' p' hp' m2
    omega
  · have hb : 13 ≤ b := by rw [putL_nx] at hb; exact hb
    unfold sig0
    rw [if_neg (by omega)]

theorem sanity_any (w : World) (hT : TensAt w) (hP : PowAt w) : Calls Tryz.prog 4 #[] w fun e w' => RetTrue e ∧ Below w.heap.size w w' := by
  obtain ⟨ρ, hρ, hz, ht⟩ : ∃ ρ : Rho, ρ.loops = loopsOf Tryz.prog ∧ ρ.fz = fzOf w ∧ ρ.tl = contOf w := ⟨⟨fun _ => undef, loopsOf Tryz.prog, fzOf w, contOf w⟩, rfl, rfl, rfl⟩
  have hrun := sanity_run
  rw [h0_put] at hrun
  unfold isTrue at hrun
  split at hrun
  · rename_i h' hv
    refine (ro_calls follows hρ (BT.find_ok tabT_ok) (extM_ok hρ) (f := 4) rfl gok0 (args := []) (cs := []) rfl rfl rfl (hrel0 hT hP ht hz) hv hrun).mono ?_
    rintro e w' ⟨c, σ', rfl, L⟩
    have : c = .bool true := Option.some.inj (L.v.symm.trans rfl)
    subst this
    exact ⟨rfl, L.b⟩
  · cases hrun
end Go.EvProp
