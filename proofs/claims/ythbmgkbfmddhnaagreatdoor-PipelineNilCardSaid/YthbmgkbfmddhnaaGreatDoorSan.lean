/-
  sanity() of law 28 returns true wherever the table of powers of ten lies as told, and leaves all that was there.
-/
import Derived.Test.YthbmgkbfmddhnaaGreatDoorRunS
import Derived.Test.YthbmgkbfmddhnaaGreatDoorKeys
set_option linter.all false
namespace Go.EvNil
open Go Go.Ev Go.Proofs Go.RowKit

theorem follows : Tryz.prog.follows .mixedOrders = true := by kernel_rfl

theorem e409 : Entry Tryz.prog 409 Extern.AbiNoEscape.same := Entry.of Tryz.func409 (by kernel_rfl) (by kernel_rfl) (by kernel_rfl) (by kernel_rfl)
theorem e472 : Entry Tryz.prog 472 Extern.BytealgIndexByte.indexByte := Entry.of Tryz.func472 (by kernel_rfl) (by kernel_rfl) (by kernel_rfl) (by kernel_rfl)
theorem e429 : Entry Tryz.prog 429 Extern.BytealgCount.count := Entry.of Tryz.func429 (by kernel_rfl) (by kernel_rfl) (by kernel_rfl) (by kernel_rfl)
theorem e164 : Entry Tryz.prog 164 Extern.BytealgCompare.compare := Entry.of Tryz.func164 (by kernel_rfl) (by kernel_rfl) (by kernel_rfl) (by kernel_rfl)
theorem e465 : Entry Tryz.prog 465 (Extern.BytealgMakeNoZero.makeNoZero #[3] #[210]) := Entry.of Tryz.func465 (by kernel_rfl) (by kernel_rfl) (by kernel_rfl) (by kernel_rfl)

theorem ext_ok {ρ : Rho} (f : FuncId) (F : List AV → H → Option (AV × H)) (h : ext f = some F) : FnOk Tryz.prog ρ f F := by
  unfold ext at h
  simp only [bif_beq] at h
  split at h
  · rename_i e; subst e; cases h; exact noEscape_ok e409
  split at h
  · rename_i e; subst e; cases h; exact indexByte_ok e472
  split at h
  · rename_i e; subst e; cases h; exact count_ok e429
  split at h
  · rename_i e; subst e; cases h; exact compare_ok e164
  split at h
  · rename_i e; subst e; cases h; exact noZero_ok e465 Tryz.underlying210
  split at h
  · rename_i e; subst e; cases h; exact keysV_ok
  · cases h

theorem env_ok {ρ : Rho} (hρ : ρ.loops = loopsOf Tryz.prog) (n : Nat) : EnvOk Tryz.prog ρ (envK Tryz.prog ext tabT.find n) :=
  envK_ok follows hρ (BT.find_ok tabT_ok) ext_ok n

theorem one_memo {ρ : Rho} {f : FuncId} {m : Memo} (h : FnOk Tryz.prog ρ f (memoF m)) : ∀ q ∈ [m], FnOk Tryz.prog ρ f (memoF q) := fun q hq => by simp at hq; subst hq; exact h

theorem extM_ok {ρ : Rho} (hρ : ρ.loops = loopsOf Tryz.prog) (f : FuncId) (F : List AV → H → Option (AV × H)) (h : extM f = some F) : FnOk Tryz.prog ρ f F := by
  have E := env_ok hρ 3000
  unfold extM at h
  simp only [bif_beq] at h
  split at h
  · rename_i e; subst e; cases h; exact memos_ok (one_memo (memo_ok (E.call 15) memo0_run))
  split at h
  · rename_i e; subst e; cases h
    exact memos_ok (one_memo (memo_ok (E.call 18) memo1_run))
  split at h
  · rename_i e; subst e; cases h
    refine memos_ok fun q hq => ?_
    simp only [List.mem_cons, List.mem_nil_iff, or_false] at hq
    rcases hq with rfl | rfl | rfl | rfl
    · exact memo_ok (E.call 6) memo2_run
    · exact memo_ok (E.call 6) memo3_run
    · exact memo_ok (E.call 6) memo4_run
    · exact memo_ok (E.call 6) memo7_run
  split at h
  · rename_i e; subst e; cases h
    refine memos_ok fun q hq => ?_
    simp only [List.mem_cons, List.mem_nil_iff, or_false] at hq
    rcases hq with rfl | rfl
    · exact memo_ok (E.call 8) memo5_run
    · exact memo_ok (E.call 8) memo6_run
  · exact ext_ok f F h

def sig0 : Sig := fun g => if g < 13 then some ⟨g, 0, 0⟩ else none

/-- The table of powers of ten lies where it should. -/
def Tens (w : World) : Prop := 13 ≤ w.heap.size ∧ ∃ fz, w.heap[1]? = some (.cells #[.int .i64 1, .int .i64 10, .int .i64 100, .int .i64 1000, .int .i64 10000, .int .i64 100000, .int .i64 1000000] 374 fz)

theorem h0_get (b : Nat) (x : ABlk) (h : h0.get b = some x) : b = 1 ∧ x = tensB := by
  unfold h0 at h
  rw [H.get_upd _ _ _ _ (by decide)] at h
  by_cases e : b = 1
  · rw [if_pos e] at h; cases h; exact ⟨e, rfl⟩
  · rw [if_neg e] at h; simp [H.get, T.get] at h

theorem rho_of (l : Nat → Option Loop) (z : Nat → Nat × Nat) (t : Nat → Array Value) : ∃ ρ : Rho, ρ.loops = l ∧ ρ.fz = z ∧ ρ.tl = t := ⟨⟨fun _ => undef, l, z, t⟩, rfl, rfl, rfl⟩

theorem sanity_any (w : World) (hw : Tens w) : Calls Tryz.prog 4 #[] w fun e w' => e = .returned (.bool true) ∧ Below w.heap.size w w' := by
  obtain ⟨hsz, fz, hblk⟩ := hw
  obtain ⟨ρ, hρ, hfz, htl⟩ := rho_of (loopsOf Tryz.prog) (fun _ => fz) (fun _ => #[.int .i64 1, .int .i64 10, .int .i64 100, .int .i64 1000, .int .i64 10000, .int .i64 100000, .int .i64 1000000])
  have hct : ∀ σ, concL ρ σ tens = some [.int .i64 1, .int .i64 10, .int .i64 100, .int .i64 1000, .int .i64 10000, .int .i64 100000, .int .i64 1000000] := fun σ => rfl
  have hg : GOk Tryz.prog sig0 := fun g hg => ⟨0, by
    have : Tryz.prog.globals.size = 13 := by kernel_rfl
    rw [this] at hg
    simp [sig0, hg]⟩
  have hH : HRel ρ sig0 h0 w := by
    refine ⟨fun b x hb => ?_, fun b b' x x' p p' hb hb' _ _ hne => ?_, fun b hb => ?_⟩
    · obtain ⟨rfl, rfl⟩ := h0_get b x hb
      exact ⟨⟨1, 0, 0⟩, rfl, _, hct _, by rw [hfz, htl]; exact hblk, fun i _ => by rw [htl]; simp⟩
    · exact absurd ((h0_get b x hb).1.trans (h0_get b' x' hb').1.symm) hne
    · have hb : 13 ≤ b := hb
      unfold sig0
      rw [if_neg (by omega)]
  have hrun := sanity_run
  unfold isTrue at hrun
  split at hrun
  · rename_i h' hr
    have hget := hasAll_mem hrun (b := 1) (x := tensB) (by simp)
    refine (envK_calls (ρ := ρ) follows hρ (BT.find_ok tabT_ok) (extM_ok hρ) (f := 4) (by kernel_rfl) hg (args := []) (cs := []) rfl hH hr).mono ?_
    rintro e w' ⟨c, rfl, σ', hc, hH', hG⟩
    simp only [conc, Option.some.injEq] at hc
    subst hc
    refine ⟨rfl, hG.os, hG.tape, hG.output, hG.size, fun k hk => ?_⟩
    by_cases e : k = 1
    · subst e
      obtain ⟨p, hp, cs, hcs, ho, _⟩ := hH'.blk 1 _ hget
      have : σ' 1 = some ⟨1, 0, 0⟩ := hG.ext 1 _ rfl
      obtain rfl : p = ⟨1, 0, 0⟩ := Option.some.inj (hp.symm.trans this)
      rw [ho, hblk, hfz, htl]
    · refine hG.kept k hk fun ⟨b, x, p, g1, g2, g3⟩ => e ?_
      obtain ⟨rfl, _⟩ := h0_get b x g1
      have : sig0 1 = some ⟨1, 0, 0⟩ := rfl
      rw [this] at g2
      cases g2
      exact g3.symm
  · cases hrun
end Go.EvNil
