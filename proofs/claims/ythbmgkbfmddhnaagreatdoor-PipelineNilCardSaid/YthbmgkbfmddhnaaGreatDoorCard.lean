/-
  The card of PipelineNil holds: the row, and the listed variables tied to the text of the program.
-/
import Derived.Test.YthbmgkbfmddhnaaGreatDoorHolds
import Derived.Test.YthbmgkbfmddhnaaGreatDoorOwnTie
import Derived.Test.YthbmgkbfmddhnaaGreatDoorCf1
import Derived.Test.YthbmgkbfmddhnaaGreatDoorCf2
import Derived.Test.YthbmgkbfmddhnaaGreatDoorCards
import Derived.SevenTiedAt
set_option linter.all false
namespace Go.Proofs.YthbmgkbfmddhnaaGreatDoor
open Go
set_option maxRecDepth 100000

theorem cf_wf : Rows.pipelineNilRow.wfByText (OpenSpec.ofChange Rows.pipelineNilSpec) = true := by kernel_rfl
theorem cf_fn : Tryz.prog.funcNamed Tryz.f3.name = some 3 := by kernel_rfl
theorem cf_stand : ([3, 22, 22].all fun u => !Tryz.prog.wantsStandIn u) = true := by kernel_rfl
theorem cf_main : Tryz.prog.mainIs = some (true, ("c31bfb8b34ef59ed8332334313b98450dcf24e2c48864d2638e57934d7e4732a" : String).toList) := by kernel_rfl
theorem pipelineNil_card : Rows.PipelineNilCardSaid :=
  Claim7.holds_tied_plain_at .later [] [.data, .data, .data, .data, .pinned, .data, .pinned, .sentinel, .sentinel, .data] true (true, "c31bfb8b34ef59ed8332334313b98450dcf24e2c48864d2638e57934d7e4732a") true
    pipelineNil_holds (fun _ h => by cases h) cf_wf (fun _ h => by cases h) pipelineNil_row_tie rfl ⟨rfl, rfl⟩ cf_main rfl
    (fun f fn hf hfn => by
      obtain rfl : f = 3 := Option.some.inj (cf_fn.symm.trans hf) |>.symm
      obtain rfl : fn = Tryz.f3 := (Option.some.inj (Tryz.func3.symm.trans hfn)).symm
      exact ⟨cf_looks, fun j t ht => by
        rw [Tryz.params3] at ht
        have hm : t ∈ [3, 22, 22] := by simpa using Array.mem_of_getElem? ht
        exact (show Tryz.prog.wantsStandIn t = false by simpa using List.all_eq_true.1 cf_stand t hm)⟩)
    cf_goes
end Go.Proofs.YthbmgkbfmddhnaaGreatDoor
