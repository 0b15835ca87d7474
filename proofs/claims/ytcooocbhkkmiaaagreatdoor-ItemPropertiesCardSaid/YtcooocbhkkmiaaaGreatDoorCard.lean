/-
  The card of ItemProperties holds: the row, and the listed variables tied to the text of the program.
-/
import Derived.Test.YtcooocbhkkmiaaaGreatDoorHolds
import Derived.Test.YtcooocbhkkmiaaaGreatDoorTie
import Derived.Test.YtcooocbhkkmiaaaGreatDoorCf
import Derived.Test.YtcooocbhkkmiaaaGreatDoorCards
import Derived.SevenTiedAt
set_option linter.all false
namespace Go.Proofs.YtcooocbhkkmiaaaGreatDoor
open Go
set_option maxRecDepth 100000

theorem cf_wf : Rows.itemPropertiesRow.wfByText (OpenSpec.ofChange Rows.itemPropertiesSpec) = true := by kernel_rfl
theorem cf_fn : Tryz.prog.funcNamed Tryz.f3.name = some 3 := by kernel_rfl
theorem cf_stand : ([22, 22, 5].all fun u => !Tryz.prog.wantsStandIn u) = true := by kernel_rfl
theorem cf_main : Tryz.prog.mainIs = some (true, ("a70f39bbca027655b7db46f5699c8a9450c94f7bc0d2229e9761fddaa7b33072" : String).toList) := by kernel_rfl
theorem itemProperties_card : Rows.ItemPropertiesCardSaid :=
  Claim7.holds_tied_plain_at .later [] [.data, .data, .data, .data, .sentinel, .sentinel, .data, .data, .pinned, .pinned] true (true, "a70f39bbca027655b7db46f5699c8a9450c94f7bc0d2229e9761fddaa7b33072") true
    itemProperties_holds (fun _ h => by cases h) cf_wf (fun _ h => by cases h) itemProperties_row_tie rfl ⟨rfl, rfl⟩ cf_main rfl
    (fun f fn hf hfn => by
      obtain rfl : f = 3 := Option.some.inj (cf_fn.symm.trans hf) |>.symm
      obtain rfl : fn = Tryz.f3 := (Option.some.inj (Tryz.func3.symm.trans hfn)).symm
      exact ⟨cf_looks, fun j t ht => by
        rw [Tryz.params3] at ht
        have hm : t ∈ [22, 22, 5] := by simpa using Array.mem_of_getElem? ht
        exact (show Tryz.prog.wantsStandIn t = false by simpa using List.all_eq_true.1 cf_stand t hm)⟩)
    cf_goes
end Go.Proofs.YtcooocbhkkmiaaaGreatDoor
