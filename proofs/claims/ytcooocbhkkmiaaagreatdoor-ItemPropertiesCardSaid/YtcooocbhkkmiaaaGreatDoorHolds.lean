/-
  The row of ItemProperties holds: for every input it returns true; condition: the listed package variables read as told.
-/
import Derived.Test.YtcooocbhkkmiaaaGreatDoorLifted
import Derived.Test.YtcooocbhkkmiaaaGreatDoorJf1
import Derived.Test.YtcooocbhkkmiaaaGreatDoorJf2
import Derived.Test.YtcooocbhkkmiaaaGreatDoorJf3
import Derived.Test.YtcooocbhkkmiaaaGreatDoorJf4
set_option linter.all false
namespace Go.Proofs.YtcooocbhkkmiaaaGreatDoor
open Go
set_option maxRecDepth 100000
theorem jf_all : joinedFacts Tryz.pinned.checked.prog 3 Tryz.f3 Rows.itemPropertiesSpec Rows.itemPropertiesRow = true := by
  show joinedFacts Tryz.prog 3 Tryz.f3 Rows.itemPropertiesSpec Rows.itemPropertiesRow = true
  unfold joinedFacts
  rw [jf_inPlace, jf_unf, jf_rec, jf_named, prop_laidOut]
  kernel_rfl
theorem itemProperties_holds : Rows.ItemPropertiesSaid :=
  OpenClaim.holds_of_wide 3 Tryz.f3 rfl rfl rfl rfl rfl rfl rfl ⟨rfl, rfl, rfl, rfl, rfl⟩ rfl rfl rfl rfl rfl (by kernel_rfl) Tryz.func3 jf_all
    (of_decide_eq_true (by kernel_rfl)) (by unfold Func.isWrapper; first | (rw [if_pos (by decide +kernel)]; kernel_rfl) | (rw [if_neg (by decide +kernel)]; exact ⟨rfl, rfl⟩))
    (fun os started H enc _ => prop_lifted os started H enc)
end Go.Proofs.YtcooocbhkkmiaaaGreatDoor
