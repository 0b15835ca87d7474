/- ConflictAuthors: the card is proved, for all arguments. -/
import Derived.Test.YtfgcglgpfgifkaaGreatDoorP29
import Derived.Test.YtfgcglgpfgifkaaGreatDoorP30
import Derived.Test.YtfgcglgpfgifkaaGreatDoorP31
import Derived.Test.YtfgcglgpfgifkaaGreatDoorP32
import Derived.Test.YtfgcglgpfgifkaaGreatDoorCards
import Derived.SevenTiedAt
set_option linter.all false
namespace Go.Proofs.YtfgcglgpfgifkaaGreatDoor
open Go
set_option maxRecDepth 100000

theorem cf_wf : Rows.conflictAuthorsRow.wfByText (OpenSpec.ofChange Rows.conflictAuthorsSpec) = true := by kernel_rfl
theorem cf_fn : Tryz.prog.funcNamed Tryz.f3.name = some 3 := by kernel_rfl
theorem cf_stand : ([22, 23, 22].all fun u => !Tryz.prog.wantsStandIn u) = true := by kernel_rfl
theorem cf_main : Tryz.prog.mainIs = some (true, ("7e28a275747fccb118d9c27246ccb44bcc60bf1229e768a522db06ecbaeec249" : String).toList) := by kernel_rfl
theorem conflictAuthors_card : Rows.ConflictAuthorsCardSaid :=
  Claim7.holds_tied_plain_at .later [] [.data, .data, .data, .data, .pinned, .data, .pinned, .sentinel, .sentinel, .data] true (true, "7e28a275747fccb118d9c27246ccb44bcc60bf1229e768a522db06ecbaeec249") true
    conflictAuthors_holds (fun _ h => by cases h) cf_wf (fun _ h => by cases h) conflictAuthors_row_tie rfl ⟨rfl, rfl⟩ cf_main rfl
    (fun f fn hf hfn => by
      obtain rfl : f = 3 := Option.some.inj (cf_fn.symm.trans hf) |>.symm
      obtain rfl : fn = Tryz.f3 := (Option.some.inj (Tryz.func3.symm.trans hfn)).symm
      exact ⟨cf_looks, fun j t ht => by
        rw [Tryz.params3] at ht
        have hm : t ∈ [22, 23, 22] := by simpa using Array.mem_of_getElem? ht
        exact (show Tryz.prog.wantsStandIn t = false by simpa using List.all_eq_true.1 cf_stand t hm)⟩)
    cf_goes
end Go.Proofs.YtfgcglgpfgifkaaGreatDoor
