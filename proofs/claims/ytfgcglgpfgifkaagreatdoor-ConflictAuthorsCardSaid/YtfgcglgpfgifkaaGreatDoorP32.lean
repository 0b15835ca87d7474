/- ConflictAuthors: one part of the proof. -/
import Derived.Test.YtfgcglgpfgifkaaGreatDoorRows
import GoSem.ClaimSeven
set_option linter.all false
namespace Go.Proofs.YtfgcglgpfgifkaaGreatDoor
open Go
set_option maxRecDepth 100000
theorem cf_none : Tryz.prog.funcs.any Func.goes = false := by kernel_rfl
theorem cf_each (g : Nat) : (Tryz.prog.funcs[g]?).any Func.goes = false := by
  cases hf : Tryz.prog.funcs[g]? with
  | none => rfl
  | some fn =>
    obtain ⟨hlt, he⟩ := Array.getElem?_eq_some_iff.1 hf
    have h1 : ¬ (Tryz.prog.funcs.any Func.goes = true) := by rw [cf_none]; decide
    rw [Array.any_eq_true] at h1
    exact Bool.eq_false_iff.2 fun ht => h1 ⟨g, hlt, by rw [he]; exact ht⟩
theorem cf_goesf (f : FuncId) : Tryz.prog.goes f = false := by
  unfold Program.goes
  rw [cf_none, Bool.and_false, Bool.or_false]
  rw [List.any_eq_false]
  intro g _
  rw [cf_each g]
  decide
theorem opt_none {α : Type} (o : Option α) (p : α → Bool) (h : ∀ a, p a = false) : o.any p = false := by
  cases o with
  | none => rfl
  | some a => exact h a
theorem cf_gen (P : Program) (c : OpenClaim) (hs : c.start = .entering) (h : ∀ f, P.goes f = false) : false = c.goesBy P := by
  unfold OpenClaim.goesBy Program.goesAt Program.goesFrom
  rw [hs, opt_none _ _ h]
  rfl
theorem cf_goes : false = Rows.conflictAuthorsRow.goesBy Tryz.prog := cf_gen Tryz.prog Rows.conflictAuthorsRow rfl cf_goesf
end Go.Proofs.YtfgcglgpfgifkaaGreatDoor
