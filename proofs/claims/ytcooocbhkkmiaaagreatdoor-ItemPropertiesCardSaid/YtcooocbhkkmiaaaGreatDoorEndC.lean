/-
  The end of the law returns true in each of its three ways.
-/
import Derived.Test.YtcooocbhkkmiaaaGreatDoorEndB
set_option linter.all false
namespace Go.EvProp
open Go Go.Ev Go.Proofs Go.RowKit
set_option maxRecDepth 100000

theorem results3 (t : Array Value) (w : World) : (results Tryz.f3 t).run Tryz.prog w = .ok (t.getD 6 undef) w := by
  simp [results, Tryz.results3, go_sem]

/-- The end of the law, when the evaluator has run it. -/
theorem end_any {ρ : Rho} {E : Env} (hE : EnvOk Tryz.prog ρ E) {x : St} {l : Blks} (hs : small l = true) (hr : allRo l = true) (hx : x.h = putL ⟨.e, 20⟩ l) (hrun : okRet l (runRest E x) = true) {σ : Sig} {a : Act} {w : World} (hst : StRel Tryz.prog ρ 117 σ x a.tmps a.defers w) {R : Ending → World → Prop} (hR : ∀ w', RowKit.Below w.heap.size w w' → R (.returned (.bool true)) w') : rest3.wp Tryz.prog (bodyPost Tryz.prog Tryz.f3 R) a w := by
  unfold runRest at hrun
  have hden := denCK_eq rest3 none rest_stat
  cases hk : denCK Tryz.prog 117 none rest3 with
  | none => rw [hk] at hrun; cases hrun
  | some c =>
    rw [hk] at hrun hden
    simp only at hrun
    have hF : SimC Tryz.prog ρ 117 (fun b => b.roundOf = none) rest3 (semC E 50 c.toCC) := denC_ok follows hE (f := 0) rest3 none c.toCC (fun h => (h rfl).elim) (fun key hk => by cases hk) hden
    cases hy : semK E 50 c x with
    | fail => rw [hy] at hrun; cases hrun
    | norm y => rw [hy] at hrun; cases hrun
    | exit id y => rw [hy] at hrun; cases hrun
    | ret y =>
      rw [hy] at hrun
      simp only [okRet, Bool.and_eq_true] at hrun
      obtain ⟨⟨h1, h2⟩, h3⟩ := hrun
      have h1 := AV.beq_eq h1
      have hsem := semK_ok c x (.ret, y) (by rw [hy]; rfl)
      refine wp_of_sim hF hsem hst fun σ' a' w' hst' hG => ?_
      have hdf : y.df = [] := by cases hd : y.df with
        | nil => rfl
        | cons _ _ => rw [hd] at h2; cases h2
      have hd' := hst'.d
      rw [hdf] at hd'
      have hv := hst'.s.2.2 6 (by omega)
      rw [h1] at hv
      have hv : (Value.bool true) = a'.tmps.getD 6 undef := Option.some.inj hv
      refine ⟨(Option.some.inj hd').symm, .bool true, by rw [hv]; exact results3 _ _, hR w' ?_⟩
      have hH := hst.h
      rw [hx] at hH hG
      exact ro_below hs hr h3 hH hst'.h hG

def fitsAll : List Nat → List Value → Bool
  | [], [] => true
  | m :: sh, v :: l => fitsV m v && fitsAll sh l
  | _, _ => false
theorem fitsAll_ok : ∀ {sh : List Nat} {l : List Value}, fitsAll sh l = true → sh.length = l.length ∧ ∀ i, i < l.length → fitsV (sh.getD i 0) (l.getD i undef) = true
  | [], [], _ => ⟨rfl, fun i hi => by simp at hi⟩
  | [], _ :: _, h => by cases h
  | _ :: _, [], h => by cases h
  | m :: sh, v :: l, h => by
    simp only [fitsAll, Bool.and_eq_true] at h
    obtain ⟨h1, h2⟩ := fitsAll_ok h.2
    refine ⟨by simp [h1], fun i hi => ?_⟩
    cases i with
    | zero => exact h.1
    | succ i => simpa using h2 i (by simpa using hi)

/-- The slots that the end of the law looks at. -/
structure Slots (a : Act) (sh : List Nat) (k bg bt bv : Nat) (want : Bool) : Prop where
  n : a.tmps.size = 117
  ds : a.defers = []
  fit : fitsAll sh a.tmps.toList = true
  t2 : a.tmps.getD 2 undef = .int .u8 k
  t7 : a.tmps.getD 7 undef = .bool true
  t10 : a.tmps.getD 10 undef = .pointer (some ⟨bg, 0, none⟩)
  t11 : a.tmps.getD 11 undef = .pointer (some ⟨bt, 0, none⟩)
  t12 : a.tmps.getD 12 undef = .pointer (some ⟨bv, 0, none⟩)
  t13 : a.tmps.getD 13 undef = .bool want

def sig9 (bc bs br bi bg bt bv : Nat) : Sig := fun b => if b < 13 then some ⟨b, 0, 0⟩ else if b = 13 then some ⟨bc, 0, 2⟩ else if b = 14 then some ⟨bs, 0, 3⟩ else if b = 15 then some ⟨br, 0, 4⟩ else if b = 16 then some ⟨bi, 0, 7⟩ else if b = 17 then some ⟨bg, 0, 6⟩ else if b = 18 then some ⟨bt, 0, 16⟩ else if b = 19 then some ⟨bv, 0, 7⟩ else none
theorem gok9 (bc bs br bi bg bt bv : Nat) : GOk Tryz.prog (sig9 bc bs br bi bg bt bv) := fun k hk => ⟨0, by rw [gsize] at hk; simp [sig9, hk]⟩

theorem slots_ok {ρ : Rho} {a : Act} {sh : List Nat} {k bc bs br bi bg bt bv : Nat} {want : Bool} (S : Slots a sh k bg bt bv want) (hρ : ∀ n, ρ.val (100 + n) = valAt a.tmps n) (l : Blks) : SRel ρ (sig9 bc bs br bi bg bt bv) 117 (x9 sh k want l).s a.tmps := by
  obtain ⟨f1, f2⟩ := fitsAll_ok S.fit
  have hn : a.tmps.toList.length = 117 := by rw [Array.length_toList]; exact S.n
  rw [hn] at f1 f2
  have h0 := absL_ok (σ := sig9 bc bs br bi bg bt bv) hρ sh f1 (by omega) S.n (fun i hi => by have := f2 i hi; simpa [List.getD_eq_getElem?_getD, Array.getD_eq_getD_getElem?] using this)
  have k1 := SRel.at h0 (i := 2) (by omega) (v := .int .u8 (.ofNat k)) rfl S.t2
  have k2 := SRel.at k1 (i := 7) (by omega) (v := .bool true) rfl S.t7
  have k3 := SRel.at k2 (i := 10) (by omega) (v := .ptr 17 0) rfl S.t10
  have k4 := SRel.at k3 (i := 11) (by omega) (v := .ptr 18 0) rfl S.t11
  have k5 := SRel.at k4 (i := 12) (by omega) (v := .ptr 19 0) rfl S.t12
  exact SRel.at k5 (i := 13) (by omega) (v := .bool want) rfl S.t13

abbrev gC (bc bs br : Nat) : Array Value := #[.string ⟨#[103]⟩, .int .i64 0, .slice (some ⟨bc, 0, none⟩) 1 1, .slice (some ⟨bs, 0, none⟩) 1 1, .slice (some ⟨br, 0, none⟩) 1 1, .int .i64 0]
abbrev iC (bi : Nat) (prop param : ByteArray) : Array Value := #[.int .i64 1, .int .i64 1, .int .i64 0, .int .i64 0, .int .i64 3, .slice (some ⟨bi, 0, none⟩) 1 1, .int .i64 0, .string ⟨#[]⟩, .int .i64 0, .int .i64 0, .int .i64 0, .slice none 0 0, .slice none 0 0, .string prop, .string param, .slice none 0 0]

/-- What lies in the world when the end of the law begins. -/
structure Fin9 (w : World) (bc bs br bi bg bt bv : Nat) (K : Nat) (d : Int) (prop param : ByteArray) (va : Array Value) : Prop where
  tens : TensAt w
  pow : PowAt w
  c : w.heap[bc]? = some (.cells #[.string ⟨#[100]⟩, .int .i64 3] 28 (0, 0))
  s : w.heap[bs]? = some (.cells #[.string ⟨#[88]⟩, .int .i64 K, .int .i64 1] 31 (0, 0))
  r : w.heap[br]? = some (.cells #[.int .i64 0, .string ⟨#[99, 111, 108]⟩, .string ⟨#[100]⟩, .slice none 0 0] 34 (0, 0))
  i : w.heap[bi]? = some (.cells (dateC d) 43 (0, 0))
  g : w.heap[bg]? = some (.cells (gC bc bs br) 37 (0, 0))
  t : w.heap[bt]? = some (.cells (iC bi prop param) 47 (0, 0))
  v : w.heap[bv]? = some (.cells va 43 (0, 0))
  ne : bi ≠ bv

theorem ne_type {w : World} {b b' : Nat} {x y : Array Value} {t u : TypeId} {f f' : Nat × Nat} (h : w.heap[b]? = some (.cells x t f)) (h' : w.heap[b']? = some (.cells y u f')) (hne : t ≠ u) : b ≠ b' := fun e => by
  subst e
  rw [h] at h'
  cases h'
  exact hne rfl

theorem hrel9 {ρ : Rho} {w : World} {bc bs br bi bg bt bv K : Nat} {d : Int} {prop param : ByteArray} {va : Array Value} {p : List Nat} {q : AV} {vl : List AV} {cv : List Value} (L : Fin9 w bc bs br bi bg bt bv K d prop param va) (ht : ρ.tl = contOf w) (hz : ρ.fz = fzOf w) (h0 : ρ.val 0 = .int .i64 d)
    (hi : concL ρ (sig9 bc bs br bi bg bt bv) (iL p q) = some (iC bi prop param).toList) (hv : concL ρ (sig9 bc bs br bi bg bt bv) vl = some cv) (hva : va = cv.toArray) : HRel ρ (sig9 bc bs br bi bg bt bv) (putL ⟨.e, 20⟩ (l9 K p q vl)) w := by
  have hsm : small (l9 K p q vl) = true := rfl
  obtain ⟨f0, t0⟩ := L.tens
  obtain ⟨f1, t1⟩ := L.pow
  have mem : ∀ b x, (putL ⟨.e, 20⟩ (l9 K p q vl)).get b = some x → (b = 0 ∧ x = tensB) ∨ (b = 1 ∧ x = powB) ∨ (b = 13 ∧ x = colB) ∨ (b = 14 ∧ x = symB K) ∨ (b = 15 ∧ x = ruleB) ∨ (b = 16 ∧ x = inB) ∨ (b = 17 ∧ x = gB) ∨ (b = 18 ∧ x = itB p q) ∨ (b = 19 ∧ x = .ro 43 vl) := fun b x hb => by
    have := putE_get hsm hb
    simpa [l9, blks] using this
  have sg : ∀ b p, sig9 bc bs br bi bg bt bv b = some p → (b = 0 ∨ b = 1 ∨ b = 13 ∨ b = 14 ∨ b = 15 ∨ b = 16 ∨ b = 17 ∨ b = 18 ∨ b = 19) → (b = 0 ∧ p.blk = 0) ∨ (b = 1 ∧ p.blk = 1) ∨ (b = 13 ∧ p.blk = bc) ∨ (b = 14 ∧ p.blk = bs) ∨ (b = 15 ∧ p.blk = br) ∨ (b = 16 ∧ p.blk = bi) ∨ (b = 17 ∧ p.blk = bg) ∨ (b = 18 ∧ p.blk = bt) ∨ (b = 19 ∧ p.blk = bv) := fun b p hp hb => by
    rcases hb with rfl | rfl | rfl | rfl | rfl | rfl | rfl | rfl | rfl <;> simp [sig9] at hp <;> subst hp <;> simp
  refine ⟨fun b x hb => ?_, fun b b' x x' p p' hb hb' hp hp' hne' => ?_, fun b hb => ?_⟩
  · rcases mem b x hb with ⟨rfl, rfl⟩ | ⟨rfl, rfl⟩ | ⟨rfl, rfl⟩ | ⟨rfl, rfl⟩ | ⟨rfl, rfl⟩ | ⟨rfl, rfl⟩ | ⟨rfl, rfl⟩ | ⟨rfl, rfl⟩ | ⟨rfl, rfl⟩
    · exact ⟨⟨0, 0, 0⟩, rfl, ro_of ht hz t0 (cs := [.int .i64 1, .int .i64 10, .int .i64 100, .int .i64 1000, .int .i64 10000, .int .i64 100000, .int .i64 1000000]) rfl rfl rfl⟩
    · exact ⟨⟨1, 0, 0⟩, rfl, ro_of ht hz t1 (cs := Lib.pow10Tab.map fun z => Value.int .u64 z) rfl rfl rfl⟩
    · exact ⟨⟨bc, 0, 2⟩, rfl, ro_of ht hz L.c (cs := [.string ⟨#[100]⟩, .int .i64 3]) rfl rfl rfl⟩
    · exact ⟨⟨bs, 0, 3⟩, rfl, ro_of ht hz L.s (cs := [.string ⟨#[88]⟩, .int .i64 K, .int .i64 1]) rfl rfl rfl⟩
    · exact ⟨⟨br, 0, 4⟩, rfl, ro_of ht hz L.r (cs := [.int .i64 0, .string ⟨#[99, 111, 108]⟩, .string ⟨#[100]⟩, .slice none 0 0]) rfl rfl rfl⟩
    · exact ⟨⟨bi, 0, 7⟩, rfl, ro_of ht hz L.i (conc_in h0) rfl rfl⟩
    · exact ⟨⟨bg, 0, 6⟩, rfl, ro_of ht hz L.g (cs := (gC bc bs br).toList) rfl rfl rfl⟩
    · exact ⟨⟨bt, 0, 16⟩, rfl, ro_of ht hz L.t hi rfl rfl⟩
    · exact ⟨⟨bv, 0, 7⟩, rfl, ro_of ht hz L.v hv hva rfl⟩
  · have m1 : b = 0 ∨ b = 1 ∨ b = 13 ∨ b = 14 ∨ b = 15 ∨ b = 16 ∨ b = 17 ∨ b = 18 ∨ b = 19 := by rcases mem b x hb with ⟨h, _⟩ | ⟨h, _⟩ | ⟨h, _⟩ | ⟨h, _⟩ | ⟨h, _⟩ | ⟨h, _⟩ | ⟨h, _⟩ | ⟨h, _⟩ | ⟨h, _⟩ <;> omega
    have m2 : b' = 0 ∨ b' = 1 ∨ b' = 13 ∨ b' = 14 ∨ b' = 15 ∨ b' = 16 ∨ b' = 17 ∨ b' = 18 ∨ b' = 19 := by rcases mem b' x' hb' with ⟨h, _⟩ | ⟨h, _⟩ | ⟨h, _⟩ | ⟨h, _⟩ | ⟨h, _⟩ | ⟨h, _⟩ | ⟨h, _⟩ | ⟨h, _⟩ | ⟨h, _⟩ <;> omega
    have s1 := sg b p hp m1
    have s2 := sg b' p' hp' m2
    have q1 := ne_type t0 t1 (by decide); have q2 := ne_type t0 L.c (by decide); have q3 := ne_type t0 L.s (by decide); have q4 := ne_type t0 L.r (by decide); have q5 := ne_type t0 L.i (by decide); have q6 := ne_type t0 L.g (by decide); have q7 := ne_type t0 L.t (by decide); have q8 := ne_type t0 L.v (by decide)
    have r2 := ne_type t1 L.c (by decide); have r3 := ne_type t1 L.s (by decide); have r4 := ne_type t1 L.r (by decide); have r5 := ne_type t1 L.i (by decide); have r6 := ne_type t1 L.g (by decide); have r7 := ne_type t1 L.t (by decide); have r8 := ne_type t1 L.v (by decide)
    have c3 := ne_type L.c L.s (by decide); have c4 := ne_type L.c L.r (by decide); have c5 := ne_type L.c L.i (by decide); have c6 := ne_type L.c L.g (by decide); have c7 := ne_type L.c L.t (by decide); have c8 := ne_type L.c L.v (by decide)
    have d4 := ne_type L.s L.r (by decide); have d5 := ne_type L.s L.i (by decide); have d6 := ne_type L.s L.g (by decide); have d7 := ne_type L.s L.t (by decide); have d8 := ne_type L.s L.v (by decide)
    have e5 := ne_type L.r L.i (by decide); have e6 := ne_type L.r L.g (by decide); have e7 := ne_type L.r L.t (by decide); have e8 := ne_type L.r L.v (by decide)
    have i6 := ne_type L.i L.g (by decide); have i7 := ne_type L.i L.t (by decide); have i8 := L.ne
    have g7 := ne_type L.g L.t (by decide); have g8 := ne_type L.g L.v (by decide); have u8 := ne_type L.t L.v (by decide)
    rcases s1 with ⟨rfl, e1⟩ | ⟨rfl, e1⟩ | ⟨rfl, e1⟩ | ⟨rfl, e1⟩ | ⟨rfl, e1⟩ | ⟨rfl, e1⟩ | ⟨rfl, e1⟩ | ⟨rfl, e1⟩ | ⟨rfl, e1⟩ <;> rw [e1] <;> rcases s2 with ⟨rfl, e2⟩ | ⟨rfl, e2⟩ | ⟨rfl, e2⟩ | ⟨rfl, e2⟩ | ⟨rfl, e2⟩ | ⟨rfl, e2⟩ | ⟨rfl, e2⟩ | ⟨rfl, e2⟩ | ⟨rfl, e2⟩ <;> rw [e2] <;> first | exact absurd rfl hne' | assumption | (apply Ne.symm; assumption)
  · have hb : 20 ≤ b := by rw [putL_nx] at hb; exact hb
    unfold sig9
    rw [if_neg (by omega), if_neg (by omega), if_neg (by omega), if_neg (by omega), if_neg (by omega), if_neg (by omega), if_neg (by omega), if_neg (by omega)]

theorem conc_iL {ρ : Rho} (bc bs br bi bg bt bv : Nat) (p : List Nat) (hp : p.all (fun n => n < 256) = true) (q : AV) (s : ByteArray) (hs : conc ρ (sig9 bc bs br bi bg bt bv) q = some (.string s)) : concL ρ (sig9 bc bs br bi bg bt bv) (iL p q) = some (iC bi (bytesOf p) s).toList := by
  have h1 : conc ρ (sig9 bc bs br bi bg bt bv) (.str p) = some (.string (bytesOf p)) := strOf p hp ρ _
  have h2 : conc ρ (sig9 bc bs br bi bg bt bv) (.slice 16 0 1 7 (some 1)) = some (.slice (some ⟨bi, 0, none⟩) 1 1) := rfl
  simp only [iL, zero7, i6, List.cons_append, List.nil_append]
  simp only [conc, concL] at h1 h2 ⊢
  rw [h1, hs]
  rfl
end Go.EvProp

namespace Go.EvProp
open Go Go.Ev Go.Proofs Go.RowKit
set_option maxRecDepth 100000

theorem runs_at {k : Nat} (hk : k < 256) : tryK k = true := List.all_eq_true.1 runs0 k (List.mem_range.2 hk)
theorem runA {k : Nat} (hk : k < 256) (h : k % 3 = 0) (b : Bool) : tryA b k = true := by
  have := runs_at hk
  unfold tryK at this
  rw [h] at this
  simp only [cond_true, Bool.and_eq_true, Nat.beq] at this
  cases b
  · exact this.2
  · exact this.1
theorem runB {k : Nat} (hk : k < 256) (h : k % 3 = 1) (b : Bool) : tryB b k = true := by
  have := runs_at hk
  unfold tryK at this
  rw [h] at this
  simp only [cond_true, cond_false, Bool.and_eq_true, Nat.beq] at this
  cases b
  · exact this.2
  · exact this.1
theorem runC' {k : Nat} (hk : k < 256) (h : k % 3 = 2) (b : Bool) : tryC b k = true := by
  have := runs_at hk
  unfold tryK at this
  rw [h] at this
  simp only [cond_false, Bool.and_eq_true, Nat.beq] at this
  cases b
  · exact this.2
  · exact this.1

theorem end_date {a : Act} {w : World} {k bc bs br bi bg bt bv : Nat} {d v : Int} (hk : k < 256) (h3 : k % 3 = 0) (S : Slots a shA k bg bt bv (decide (d ≤ v))) (L : Fin9 w bc bs br bi bg bt bv 3 d nbfB ⟨#[100]⟩ (dateC v)) (d0 : 0 ≤ d) (d1 : d ≤ 3652058) (v0 : 0 ≤ v) (v1 : v ≤ 3652058)
    {R : Ending → World → Prop} (hR : ∀ w', RowKit.Below w.heap.size w w' → R (.returned (.bool true)) w') : rest3.wp Tryz.prog (bodyPost Tryz.prog Tryz.f3 R) a w := by
  obtain ⟨ρ, Rd, ht, hz, hρ⟩ : ∃ ρ : Rho, RhoD ρ d v ∧ ρ.tl = contOf w ∧ ρ.fz = fzOf w ∧ ∀ n, ρ.val (100 + n) = valAt a.tmps n :=
    ⟨⟨fun n => if n = 0 then .int .i64 d else if n = 4 then .int .i64 v else valAt a.tmps (n - 100), loopsOf Tryz.prog, fzOf w, contOf w⟩, ⟨rfl, rfl, rfl⟩, rfl, rfl, fun n => by
      show (if 100 + n = 0 then _ else if 100 + n = 4 then _ else valAt a.tmps (100 + n - 100)) = _
      rw [if_neg (by omega), if_neg (by omega), Nat.add_sub_cancel_left]⟩
  have hE := envK_ok follows Rd.loops (BT.find_ok tabT_ok) (extFD_ok Rd d0 d1 v0 v1 _ rfl) 50
  have hv : concL ρ (sig9 bc bs br bi bg bt bv) dateL = some (dateC v).toList := by
    have h1 : conc ρ (sig9 bc bs br bi bg bt bv) (.sym 4) = some (.int .i64 v) := by simp [conc, Rd.v4, one]
    simp only [dateL, i6, conc, concL] at h1 ⊢
    rw [h1]
    rfl
  exact end_any hE (x := x9 shA k (decide (d ≤ v)) (l9 3 nbf pD dateL)) (l := l9 3 nbf pD dateL) rfl rfl rfl (runA hk h3 _) ⟨slots_ok S hρ _, hrel9 L ht hz Rd.v0 (conc_iL bc bs br bi bg bt bv nbf (by decide) pD ⟨#[100]⟩ rfl) hv rfl, by rw [S.ds]; rfl, gok9 bc bs br bi bg bt bv⟩ hR

theorem rho_num (a : Act) (w : World) (d : Int) (s : ByteArray) (N2 : Int) (S2 : Nat) (N4 : Int) (S4 : Nat) (hT : TensAt w) (hP : PowAt w) : ∃ ρ : Rho, RhoN ρ d s N2 S2 N4 S4 ∧ ρ.tl = contOf w ∧ ρ.fz = fzOf w ∧ ∀ n, ρ.val (100 + n) = valAt a.tmps n := by
  obtain ⟨f0, t0⟩ := hT
  obtain ⟨f1, t1⟩ := hP
  refine ⟨⟨fun i => if i = 0 then .int .i64 d else if i = 1 then .string s else if i = 2 then .int .i64 N2 else if i = 3 then .int .i64 S2 else if i = 4 then .int .i64 N4 else if i = 5 then .int .i64 S4 else valAt a.tmps (i - 100), loopsOf Tryz.prog, fzOf w, contOf w⟩, ⟨rfl, rfl, rfl, rfl, rfl, rfl, rfl, contOf_eq t0, contOf_eq t1⟩, rfl, rfl, fun n => ?_⟩
  show (if 100 + n = 0 then _ else if 100 + n = 1 then _ else if 100 + n = 2 then _ else if 100 + n = 3 then _ else if 100 + n = 4 then _ else if 100 + n = 5 then _ else valAt a.tmps (100 + n - 100)) = _
  rw [if_neg (by omega), if_neg (by omega), if_neg (by omega), if_neg (by omega), if_neg (by omega), if_neg (by omega), Nat.add_sub_cancel_left]


theorem end_atl {a : Act} {w : World} {k bc bs br bi bg bt bv : Nat} {d : Int} {s : ByteArray} {N2 : Int} {S2 : Nat} {N4 : Int} {S4 : Nat} (hk : k < 256) (d0 : 0 ≤ d) (d1 : d ≤ 3652058) (h2 : RightD N2 S2) (hS2 : S2 ≤ 3) (h4 : RightD N4 S4) (hS4 : S4 ≤ 3) (hs : s.data.toList = txD (decide (N2 < 0)) N2.natAbs S2) (hz : 0 < s.size) (hb : begins (s[0]'hz)) (h3 : k % 3 = 1) (S : Slots a shB k bg bt bv (decide (0 ≤ orI (cmpI (wholeOf N4 S4) (wholeOf N2 S2)) (cmpI (partOf N4 S4) (partOf N2 S2))))) (L : Fin9 w bc bs br bi bg bt bv 2 d atlB s (numC N4 S4))
    {R : Ending → World → Prop} (hR : ∀ w', RowKit.Below w.heap.size w w' → R (.returned (.bool true)) w') : rest3.wp Tryz.prog (bodyPost Tryz.prog Tryz.f3 R) a w := by
  obtain ⟨ρ, Rn, ht, hz', hρ⟩ := rho_num a w d s N2 S2 N4 S4 L.tens L.pow
  have hE := envK_ok follows Rn.loops (BT.find_ok tabT_ok) (extFL_ok Rn d0 d1 h2 hS2 h4 hS4 hs hz hb) 50
  have hv : concL ρ (sig9 bc bs br bi bg bt bv) numL = some (numC N4 S4).toList := by
    have h1 : conc ρ (sig9 bc bs br bi bg bt bv) (.sym 4) = some (.int .i64 N4) := by simp [conc, Rn.v4, one]
    have h2 : conc ρ (sig9 bc bs br bi bg bt bv) (.sym 5) = some (.int .i64 S4) := by simp [conc, Rn.v5, one]
    simp only [numL, i6, conc, concL] at h1 h2 ⊢
    rw [h1, h2]
    rfl
  exact end_any hE (x := x9 shB k _ (l9 2 atl (.sym 1) numL)) (l := l9 2 atl (.sym 1) numL) rfl rfl rfl (runB hk h3 _) ⟨slots_ok S hρ _, hrel9 L ht hz' Rn.v0 (conc_iL bc bs br bi bg bt bv atl (by decide) (.sym 1) s (sym1 Rn _)) hv rfl, by rw [S.ds]; rfl, gok9 bc bs br bi bg bt bv⟩ hR
theorem end_atm {a : Act} {w : World} {k bc bs br bi bg bt bv : Nat} {d : Int} {s : ByteArray} {N2 : Int} {S2 : Nat} {N4 : Int} {S4 : Nat} (hk : k < 256) (d0 : 0 ≤ d) (d1 : d ≤ 3652058) (h2 : RightD N2 S2) (hS2 : S2 ≤ 3) (h4 : RightD N4 S4) (hS4 : S4 ≤ 3) (hs : s.data.toList = txD (decide (N2 < 0)) N2.natAbs S2) (hz : 0 < s.size) (hb : begins (s[0]'hz)) (h3 : k % 3 = 2) (S : Slots a shC k bg bt bv (decide (orI (cmpI (wholeOf N4 S4) (wholeOf N2 S2)) (cmpI (partOf N4 S4) (partOf N2 S2)) ≤ 0))) (L : Fin9 w bc bs br bi bg bt bv 2 d atmB s (numC N4 S4))
    {R : Ending → World → Prop} (hR : ∀ w', RowKit.Below w.heap.size w w' → R (.returned (.bool true)) w') : rest3.wp Tryz.prog (bodyPost Tryz.prog Tryz.f3 R) a w := by
  obtain ⟨ρ, Rn, ht, hz', hρ⟩ := rho_num a w d s N2 S2 N4 S4 L.tens L.pow
  have hE := envK_ok follows Rn.loops (BT.find_ok tabT_ok) (extFM_ok Rn d0 d1 h2 hS2 h4 hS4 hs hz hb) 50
  have hv : concL ρ (sig9 bc bs br bi bg bt bv) numL = some (numC N4 S4).toList := by
    have h1 : conc ρ (sig9 bc bs br bi bg bt bv) (.sym 4) = some (.int .i64 N4) := by simp [conc, Rn.v4, one]
    have h2 : conc ρ (sig9 bc bs br bi bg bt bv) (.sym 5) = some (.int .i64 S4) := by simp [conc, Rn.v5, one]
    simp only [numL, i6, conc, concL] at h1 h2 ⊢
    rw [h1, h2]
    rfl
  exact end_any hE (x := x9 shC k _ (l9 2 atm (.sym 1) numL)) (l := l9 2 atm (.sym 1) numL) rfl rfl rfl (runC' hk h3 _) ⟨slots_ok S hρ _, hrel9 L ht hz' Rn.v0 (conc_iL bc bs br bi bg bt bv atm (by decide) (.sym 1) s (sym1 Rn _)) hv rfl, by rw [S.ds]; rfl, gok9 bc bs br bi bg bt bv⟩ hR
end Go.EvProp
