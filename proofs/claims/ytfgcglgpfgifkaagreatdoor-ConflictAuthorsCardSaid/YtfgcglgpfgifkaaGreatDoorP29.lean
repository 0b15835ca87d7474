/- ConflictAuthors: one part of the proof. -/
import Derived.Test.YtfgcglgpfgifkaaGreatDoorP24
import Derived.Test.YtfgcglgpfgifkaaGreatDoorP26
import Derived.Test.YtfgcglgpfgifkaaGreatDoorP27
import Derived.Test.YtfgcglgpfgifkaaGreatDoorP28
import Derived.Test.YtfgcglgpfgifkaaGreatDoorP28a
import Derived.Test.YtfgcglgpfgifkaaGreatDoorP25
set_option linter.all false
namespace Go.Proofs.YtfgcglgpfgifkaaGreatDoor
open Go
set_option maxRecDepth 100000
theorem jf_all : joinedFacts Tryz.pinned.checked.prog 3 Tryz.f3 Rows.conflictAuthorsSpec Rows.conflictAuthorsRow = true := by
  show joinedFacts Tryz.prog 3 Tryz.f3 Rows.conflictAuthorsSpec Rows.conflictAuthorsRow = true
  unfold joinedFacts
  rw [jf_inPlace, jf_unf, jf_rec, jf_named, prop_laidOut, js_stops, js_knobs, js_heard, js_maps, js_enter, js_plain, js_lift, js_tie]
  kernel_rfl
theorem conflictAuthors_holds : Rows.ConflictAuthorsSaid :=
  OpenClaim.holds_of_wide 3 Tryz.f3 rfl rfl rfl rfl rfl rfl rfl ⟨rfl, rfl, rfl, rfl, rfl⟩ rfl rfl rfl rfl rfl (by kernel_rfl) Tryz.func3 jf_all
    (of_decide_eq_true (by kernel_rfl)) (by unfold Func.isWrapper; first | (rw [if_pos (by decide +kernel)]; kernel_rfl) | (rw [if_neg (by decide +kernel)]; exact ⟨rfl, rfl⟩))
    (fun os started H enc _ => prop_lifted os started H enc)
end Go.Proofs.YtfgcglgpfgifkaaGreatDoor
