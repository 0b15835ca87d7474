/-
  The stand-ins of those runs are right.
-/
import Derived.Test.YtcooocbhkkmiaaaGreatDoorRunD
set_option linter.all false
namespace Go.EvProp
open Go Go.Ev Go.Proofs Go.RowKit
set_option maxRecDepth 100000

/-- What the unknown values are, for numbers: the date of the input, the parameter, the bound, the value. -/
structure RhoN (ρ : Rho) (d : Int) (s : ByteArray) (N2 : Int) (S2 : Nat) (N4 : Int) (S4 : Nat) : Prop where
  loops : ρ.loops = loopsOf Tryz.prog
  v0 : ρ.val 0 = .int .i64 d
  v1 : ρ.val 1 = .string s
  v2 : ρ.val 2 = .int .i64 N2
  v3 : ρ.val 3 = .int .i64 S2
  v4 : ρ.val 4 = .int .i64 N4
  v5 : ρ.val 5 = .int .i64 S4
  t0 : ρ.tl 0 = #[.int .i64 1, .int .i64 10, .int .i64 100, .int .i64 1000, .int .i64 10000, .int .i64 100000, .int .i64 1000000]
  t1 : ρ.tl 1 = (Lib.pow10Tab.map fun z => Value.int .u64 z).toArray

theorem tens_of {ρ : Rho} {σ : Sig} {h : H} {w : World} (hg : GOk Tryz.prog σ) (hH : HRel ρ σ h w) (ht : ρ.tl 0 = #[.int .i64 1, .int .i64 10, .int .i64 100, .int .i64 1000, .int .i64 10000, .int .i64 100000, .int .i64 1000000]) (hb : h.get 0 = some tensB) : TensAt w := by
  obtain ⟨p, hp, cs, _, ho, _⟩ := hH.blk 0 _ hb
  obtain ⟨t, hg0⟩ := hg 0 (by rw [gsize]; omega)
  obtain rfl : p = ⟨0, 0, t⟩ := Option.some.inj (hp.symm.trans hg0)
  exact ⟨ρ.fz 0, by rw [← ht]; exact ho⟩
theorem pow_of {ρ : Rho} {σ : Sig} {h : H} {w : World} (hg : GOk Tryz.prog σ) (hH : HRel ρ σ h w) (ht : ρ.tl 1 = (Lib.pow10Tab.map fun z => Value.int .u64 z).toArray) (hb : h.get 1 = some powB) : PowAt w := by
  obtain ⟨p, hp, cs, _, ho, _⟩ := hH.blk 1 _ hb
  obtain ⟨t, hg0⟩ := hg 1 (by rw [gsize]; omega)
  obtain rfl : p = ⟨1, 0, t⟩ := Option.some.inj (hp.symm.trans hg0)
  exact ⟨ρ.fz 1, by rw [← ht]; exact ho⟩
theorem ro_cell {ρ : Rho} {σ : Sig} {h : H} {w : World} (hH : HRel ρ σ h w) {b : Nat} {e : TypeId} {vs : List AV} {p : Ev.Place} (hb : h.get b = some (.ro e vs)) (hp : σ b = some p) {i : Nat} {v : AV} (hv : vs[i]? = some v) : ∃ c, conc ρ σ v = some c ∧ w.cell? ⟨p.blk, p.del + i, none⟩ = some c := by
  obtain ⟨q, hq, cs, hc, ho, h7⟩ := hH.blk b _ hb
  obtain rfl : p = q := Option.some.inj (hp.symm.trans hq)
  obtain ⟨c, h1, h2⟩ := concL_get hc hv
  have hlt : i < vs.length := (List.getElem?_eq_some_iff.1 hv).1
  refine ⟨c, h2, ?_⟩
  simp only [World.cell?, ho]
  rw [h7 i hlt, h1]
  rfl

theorem conc_date {ρ : Rho} {σ : Sig} {i : Nat} {d : Int} (h : ρ.val i = .int .i64 d) : conc ρ σ (dateA i) = some (.agg (dateC d)) := by
  have h1 : conc ρ σ (.sym i) = some (.int .i64 d) := by simp [conc, h, one]
  have h2 : conc ρ σ (.str []) = some (.string ⟨#[]⟩) := rfl
  simp only [dateA, i6, conc, concL] at h1 ⊢
  rw [h1]
  rfl
theorem conc_num {ρ : Rho} {σ : Sig} {N : Int} {S : Nat} (h : ρ.val 4 = .int .i64 N) (h' : ρ.val 5 = .int .i64 S) : conc ρ σ numA = some (.agg (numC N S)) := by
  have h1 : conc ρ σ (.sym 4) = some (.int .i64 N) := by simp [conc, h, one]
  have h2 : conc ρ σ (.sym 5) = some (.int .i64 S) := by simp [conc, h', one]
  simp only [numA, i6, conc, concL] at h1 h2 ⊢
  rw [h1, h2]
  rfl

theorem rightE_ok {ρ : Rho} (hρ : ρ.loops = loopsOf Tryz.prog) : FnOk Tryz.prog ρ 30 rightE := (envP_ok hρ 200).call 30

theorem rightN_ok {ρ : Rho} {d N4 N2 : Int} {s : ByteArray} {S2 S4 : Nat} (R : RhoN ρ d s N2 S2 N4 S4) (hd0 : 0 ≤ d) (hd1 : d ≤ 3652058) (h4 : RightD N4 S4) : FnOk Tryz.prog ρ 30 (constF [dateA 0] (.bool true) [] (constF [numA] (.bool true) [] rightE)) := by
  refine constF_ok Tryz.func30 (by decide) (by kernel_rfl) (constF_ok Tryz.func30 (by decide) (by kernel_rfl) (rightE_ok R.loops) ?_) ?_
  · intro σ h cs w hg hH hn hc
    obtain ⟨c, h1, rfl⟩ := concL_one hc
    rw [conc_num R.v4 R.v5] at h1
    cases h1
    exact (vright_num N4 S4 w h4).mono fun e w' ⟨h1, h2⟩ => ⟨_, h1, rfl, h2⟩
  · intro σ h cs w hg hH hn hc
    obtain ⟨c, h1, rfl⟩ := concL_one hc
    rw [conc_date R.v0] at h1
    cases h1
    exact (vright_date d w hd0 hd1).mono fun e w' ⟨h1, h2⟩ => ⟨_, h1, rfl, h2⟩

theorem parseN_ok {ρ : Rho} {d N4 N2 : Int} {s : ByteArray} {S2 S4 : Nat} (R : RhoN ρ d s N2 S2 N4 S4) (h2 : RightD N2 S2) (hS2 : S2 ≤ 3) (hs : s.data.toList = txD (decide (N2 < 0)) N2.natAbs S2) : FnOk Tryz.prog ρ 70 (constF [.sym 1] (.tup [.agg [.sym 2, .sym 3], .bool true]) [(1, powB)] noneF) := by
  refine constF_ok Tryz.func70 (by decide) (by kernel_rfl) noneF_ok ?_
  intro σ h cs w hg hH hn hc
  obtain ⟨c, h1, rfl⟩ := concL_one hc
  have : conc ρ σ (.sym 1) = some (.string s) := by simp [conc, R.v1, one]
  rw [this] at h1
  cases h1
  have hp := pow_of hg hH R.t1 (hn 1 _ (List.mem_singleton.2 rfl))
  refine (dparse_any N2 S2 s w h2 hS2 hs hp).mono fun e w' ⟨h1, h3⟩ => ⟨_, h1, ?_, h3⟩
  have e2 : conc ρ σ (.sym 2) = some (.int .i64 N2) := by simp [conc, R.v2, one]
  have e3 : conc ρ σ (.sym 3) = some (.int .i64 S2) := by simp [conc, R.v3, one]
  simp only [conc, concL] at e2 e3 ⊢
  rw [e2, e3]
  rfl

theorem readN_ok {ρ : Rho} {d N4 N2 : Int} {s : ByteArray} {S2 S4 : Nat} (R : RhoN ρ d s N2 S2 N4 S4) (hz : 0 < s.size) (hb : begins (s[0]'hz)) : FnOk Tryz.prog ρ 73 (constF [.sym 1] (.tup [.agg zero7, .bool false]) [] noneF) := by
  refine constF_ok Tryz.func73 (by decide) (by kernel_rfl) noneF_ok ?_
  intro σ h cs w hg hH hn hc
  obtain ⟨c, h1, rfl⟩ := concL_one hc
  have : conc ρ σ (.sym 1) = some (.string s) := by simp [conc, R.v1, one]
  rw [this] at h1
  cases h1
  exact (vread_no s w hz hb).mono fun e w' ⟨h1, h3⟩ => ⟨_, h1, rfl, h3⟩

theorem indexN_ok {ρ : Rho} {d N4 N2 : Int} {s : ByteArray} {S2 S4 : Nat} (R : RhoN ρ d s N2 S2 N4 S4) (hz : 0 < s.size) (hb : begins (s[0]'hz)) : FnOk Tryz.prog ρ 74 (constF [.slice 13 0 1 2 (some 1), .agg [.sym 1, i6 3]] (.int .i64 (.negSucc 0)) [(13, colB)] noneF) := by
  refine constF_ok Tryz.func74 (by decide) (by kernel_rfl) noneF_ok ?_
  intro σ h cs w hg hH hn hc
  obtain ⟨c, r, h1, h2, rfl⟩ := concL_cons hc
  obtain ⟨c2, h3, rfl⟩ := concL_one h2
  obtain ⟨p, hp, rfl⟩ := conc_slice h1
  have e1 : conc ρ σ (.agg [.sym 1, i6 3]) = some (.agg #[.string s, .int .i64 3]) := by
    have : conc ρ σ (.sym 1) = some (.string s) := by simp [conc, R.v1, one]
    simp only [conc, concL] at this ⊢
    rw [this]
    rfl
  rw [e1] at h3
  cases h3
  have hcol := hn 13 _ (List.mem_singleton.2 rfl)
  obtain ⟨c0, k0, q0⟩ := ro_cell hH hcol hp (i := 0) (v := .str [100]) rfl
  obtain ⟨c1, k1, q1⟩ := ro_cell hH hcol hp (i := 1) (v := i6 3) rfl
  have k0' : c0 = .string ⟨#[100]⟩ := Option.some.inj (k0.symm.trans rfl)
  have k1' : c1 = .int .i64 3 := Option.some.inj (k1.symm.trans rfl)
  subst k0' k1'
  have hne : s ≠ ⟨#[100]⟩ := fun e => by
    subst e
    have e0 : (⟨#[100]⟩ : ByteArray)[0]'hz = 100 := rfl
    rw [e0] at hb
    rcases hb with hb | hb
    · exact absurd hb (by decide)
    · exact absurd hb.2 (by decide)
  exact (colIndex_no s p.blk (p.del + 0) (capN p 0 2 (some 1)) w hne q0 q1).mono fun e w' ⟨h1, h3⟩ => ⟨_, h1, rfl, h3⟩

theorem cmpN_ok {ρ : Rho} {d N4 N2 : Int} {s : ByteArray} {S2 S4 : Nat} (R : RhoN ρ d s N2 S2 N4 S4) (h2 : RightD N2 S2) (hS2 : S2 ≤ 3) (h4 : RightD N4 S4) (hS4 : S4 ≤ 3) (c : AV) (r : Int) (hc : ∀ σ, conc ρ σ c = some (.int .i64 r)) (hr : orI (cmpI (wholeOf N4 S4) (wholeOf N2 S2)) (cmpI (partOf N4 S4) (partOf N2 S2)) = r) : FnOk Tryz.prog ρ 81 (constF [.agg [.sym 4, .sym 5], .agg [.sym 2, .sym 3]] c [(0, tensB)] noneF) := by
  refine constF_ok Tryz.func81 (by decide) (by kernel_rfl) noneF_ok ?_
  intro σ h cs w hg hH hn hcs
  obtain ⟨c1, l1, h1, h3, rfl⟩ := concL_cons hcs
  obtain ⟨c3, h5, rfl⟩ := concL_one h3
  have e2 : conc ρ σ (.sym 2) = some (.int .i64 N2) := by simp [conc, R.v2, one]
  have e3 : conc ρ σ (.sym 3) = some (.int .i64 S2) := by simp [conc, R.v3, one]
  have e4 : conc ρ σ (.sym 4) = some (.int .i64 N4) := by simp [conc, R.v4, one]
  have e5 : conc ρ σ (.sym 5) = some (.int .i64 S4) := by simp [conc, R.v5, one]
  have f1 : conc ρ σ (.agg [.sym 4, .sym 5]) = some (.agg #[.int .i64 N4, .int .i64 S4]) := by simp only [conc, concL] at e4 e5 ⊢; rw [e4, e5]; rfl
  have f2 : conc ρ σ (.agg [.sym 2, .sym 3]) = some (.agg #[.int .i64 N2, .int .i64 S2]) := by simp only [conc, concL] at e2 e3 ⊢; rw [e2, e3]; rfl
  rw [f1] at h1
  rw [f2] at h5
  cases h1
  cases h5
  have ht := tens_of hg hH R.t0 (hn 0 _ (List.mem_singleton.2 rfl))
  refine (dcmp_any N4 N2 S4 S2 w h4 h2 hS4 hS2 ht).mono fun e w' ⟨h1, h3⟩ => ⟨_, h1, ?_, h3⟩
  rw [hr]
  exact hc σ

theorem extN_ok {ρ : Rho} {d N4 N2 : Int} {s : ByteArray} {S2 S4 : Nat} (R : RhoN ρ d s N2 S2 N4 S4) (hd0 : 0 ≤ d) (hd1 : d ≤ 3652058) (h2 : RightD N2 S2) (hS2 : S2 ≤ 3) (h4 : RightD N4 S4) (hS4 : S4 ≤ 3) (hs : s.data.toList = txD (decide (N2 < 0)) N2.natAbs S2) (hz : 0 < s.size) (hb : begins (s[0]'hz)) (c : AV) (r : Int) (hc : ∀ σ, conc ρ σ c = some (.int .i64 r)) (hr : orI (cmpI (wholeOf N4 S4) (wholeOf N2 S2)) (cmpI (partOf N4 S4) (partOf N2 S2)) = r) (f : FuncId) (F : List AV → H → Option (AV × H)) (h : extN c f = some F) : FnOk Tryz.prog ρ f F := by
  unfold extN at h
  simp only [bif_beq] at h
  split at h
  · rename_i e; subst e; cases h; exact rightN_ok R hd0 hd1 h4
  split at h
  · rename_i e; subst e; cases h; exact parseN_ok R h2 hS2 hs
  split at h
  · rename_i e; subst e; cases h; exact readN_ok R hz hb
  split at h
  · rename_i e; subst e; cases h; exact indexN_ok R hz hb
  split at h
  · rename_i e; subst e; cases h; exact cmpN_ok R h2 hS2 h4 hS4 c r hc hr
  · exact extP_ok f F h
end Go.EvProp

namespace Go.EvProp
open Go Go.Ev Go.Proofs Go.RowKit
set_option maxRecDepth 100000

/-- What the unknown values are, for dates. -/
structure RhoD (ρ : Rho) (d v : Int) : Prop where
  loops : ρ.loops = loopsOf Tryz.prog
  v0 : ρ.val 0 = .int .i64 d
  v4 : ρ.val 4 = .int .i64 v

theorem rightD_ok {ρ : Rho} {d v : Int} (R : RhoD ρ d v) (hd0 : 0 ≤ d) (hd1 : d ≤ 3652058) (hv0 : 0 ≤ v) (hv1 : v ≤ 3652058) : FnOk Tryz.prog ρ 30 (constF [dateA 0] (.bool true) [] (constF [dateA 4] (.bool true) [] rightE)) := by
  refine constF_ok Tryz.func30 (by decide) (by kernel_rfl) (constF_ok Tryz.func30 (by decide) (by kernel_rfl) (rightE_ok R.loops) ?_) ?_
  · intro σ h cs w hg hH hn hc
    obtain ⟨c, h1, rfl⟩ := concL_one hc
    rw [conc_date R.v4] at h1
    cases h1
    exact (vright_date v w hv0 hv1).mono fun e w' ⟨h1, h2⟩ => ⟨_, h1, rfl, h2⟩
  · intro σ h cs w hg hH hn hc
    obtain ⟨c, h1, rfl⟩ := concL_one hc
    rw [conc_date R.v0] at h1
    cases h1
    exact (vright_date d w hd0 hd1).mono fun e w' ⟨h1, h2⟩ => ⟨_, h1, rfl, h2⟩

theorem close_ok {ρ : Rho} {d v : Int} (R : RhoD ρ d v) (le : Bool) (hle : decide (d ≤ v) = le) : FnOk Tryz.prog ρ 84 (closeF le) := by
  intro σ args h r h' cs w hg hargs hH hv
  unfold closeF at hv
  split at hv
  · rename_i a bi bc
    cases hb : (AV.beq a (dateA 4) && hasAll h [(16, inB)]) with
    | false => rw [hb] at hv; cases hv
    | true =>
      rw [hb] at hv
      simp only [cond_true] at hv
      simp only [Bool.and_eq_true] at hb
      obtain rfl := AV.beq_eq hb.1
      have h16 := hasAll_mem hb.2 (b := 16) (List.mem_singleton.2 rfl)
      split at hv
      · rename_i ti vi t1 t2 tc vc t3 t4 hbi hbc
        split at hv
        · rename_i x xs y ys hdrop
          cases hb2 : (AV.beq x (.slice 16 0 1 7 (some 1)) && AV.beq y (i6 0)) with
          | false => rw [hb2] at hv; cases hv
          | true =>
            rw [hb2] at hv
            simp only [cond_true, Option.some.injEq, Prod.mk.injEq] at hv
            obtain ⟨rfl, rfl⟩ := hv
            simp only [Bool.and_eq_true] at hb2
            obtain rfl := AV.beq_eq hb2.1
            obtain rfl := AV.beq_eq hb2.2
            obtain ⟨c1, l1, k1, k2, rfl⟩ := concL_cons hargs
            obtain ⟨c2, l2, k3, k4, rfl⟩ := concL_cons k2
            obtain ⟨c3, k5, rfl⟩ := concL_one k4
            rw [conc_date R.v4] at k1
            cases k1
            obtain ⟨pi, hpi, rfl⟩ := conc_ptr k3
            obtain ⟨pc, hpc, rfl⟩ := conc_ptr k5
            obtain ⟨pi', arr, fz, ci, hpi', a1, a2, a3, a4, a5, a6, _, _⟩ := hH.cells hbi
            obtain rfl : pi = pi' := Option.some.inj (hpi.symm.trans hpi')
            obtain ⟨pc', arr', fz', cc, hpc', b1, b2, b3, b4, b5, b6, _, _⟩ := hH.cells hbc
            obtain rfl : pc = pc' := Option.some.inj (hpc.symm.trans hpc')
            have hx : vi[5]? = some (.slice 16 0 1 7 (some 1)) := by
              have : (vi.drop 5)[0]? = some (.slice 16 0 1 7 (some 1)) := by rw [hdrop]; rfl
              rw [List.getElem?_drop] at this
              exact this
            obtain ⟨cx, e1, e2⟩ := concL_get a5 hx
            obtain ⟨p16, hp16, rfl⟩ := conc_slice e2
            have hlt : 5 < vi.length := (List.getElem?_eq_some_iff.1 hx).1
            have g5 := a6 5 hlt
            rw [e1] at g5
            obtain ⟨cy, cl, f1, f2, rfl⟩ := concL_cons b5
            have f1' : cy = .int .i64 0 := Option.some.inj (f1.symm.trans rfl)
            subst f1'
            have g0 := b6 0 (by simp)
            obtain ⟨u0, m0, n0⟩ := ro_cell hH h16 hp16 (i := 0) (v := i6 3) rfl
            obtain ⟨u4, m4, n4⟩ := ro_cell hH h16 hp16 (i := 4) (v := .sym 0) rfl
            have m0' : u0 = .int .i64 3 := Option.some.inj (m0.symm.trans rfl)
            have m4' : u4 = .int .i64 d := by
              have : conc ρ σ (.sym 0) = some (.int .i64 d) := by simp [conc, R.v0, one]
              exact Option.some.inj (m4.symm.trans this)
            subst m0' m4'
            refine .inr ⟨enters Tryz.func84 (by decide) (by kernel_rfl), Ret.of ((notbefore_any v d pi.blk (pi.del + 0) pc.blk (pc.del + 0) p16.blk (p16.del + 0) (capN p16 0 7 (some 1)) w (by simpa using g5) (by simpa using g0) (by simpa using n0) (by simpa using n4)).mono ?_)⟩
            rintro e w' ⟨h1, h2⟩
            rw [hle] at h1
            exact ⟨_, h1, σ, rfl, hH.below h2, Goes.below h2⟩
        · cases hv
      · cases hv
  · cases hv

theorem extD0_ok {ρ : Rho} {d v : Int} (R : RhoD ρ d v) (hd0 : 0 ≤ d) (hd1 : d ≤ 3652058) (hv0 : 0 ≤ v) (hv1 : v ≤ 3652058) (f : FuncId) (F : List AV → H → Option (AV × H)) (h : extD0 f = some F) : FnOk Tryz.prog ρ f F := by
  unfold extD0 at h
  simp only [bif_beq] at h
  split at h
  · rename_i e; subst e; cases h; exact rightD_ok R hd0 hd1 hv0 hv1
  · exact extP_ok f F h
theorem extD_ok {ρ : Rho} {d v : Int} (R : RhoD ρ d v) (hd0 : 0 ≤ d) (hd1 : d ≤ 3652058) (hv0 : 0 ≤ v) (hv1 : v ≤ 3652058) (le : Bool) (hle : decide (d ≤ v) = le) (f : FuncId) (F : List AV → H → Option (AV × H)) (h : extD le f = some F) : FnOk Tryz.prog ρ f F := by
  unfold extD at h
  simp only [bif_beq] at h
  split at h
  · rename_i e; subst e; cases h; exact close_ok R le hle
  · exact extD0_ok R hd0 hd1 hv0 hv1 f F h
end Go.EvProp
