/- ItemPartials, one part of the proof: PartHoldsZ, PartCf1, PartCf2, PartCardProof. -/
import Derived.Test.YtljoobbnhbaklaaGreatDoorP43
import Derived.Test.YtljoobbnhbaklaaGreatDoorP44
import Derived.Test.YtljoobbnhbaklaaGreatDoorP45
import Derived.Test.YtljoobbnhbaklaaGreatDoorP46
import Derived.Test.YtljoobbnhbaklaaGreatDoorP47
import Derived.Test.YtljoobbnhbaklaaGreatDoorRows
import GoSem.ClaimSeven
import Derived.Test.YtljoobbnhbaklaaGreatDoorTie
import Derived.Test.YtljoobbnhbaklaaGreatDoorCards
import Derived.SevenTiedAt
set_option linter.all false
set_option maxRecDepth 100000
set_option maxHeartbeats 16000000
namespace Go.Proofs.YtljoobbnhbaklaaGreatDoor
open Go
theorem jf_all : joinedFacts Tryz.pinned.checked.prog 3 Tryz.f3 Rows.itemPartialsSpec Rows.itemPartialsRow = true := by
 show joinedFacts Tryz.prog 3 Tryz.f3 Rows.itemPartialsSpec Rows.itemPartialsRow = true
 unfold joinedFacts
 rw [jf_inPlace, jf_unf, jf_rec, jf_named, prop_laidOut]
 kernel_rfl
theorem itemPartials_holds : Rows.ItemPartialsSaid :=
 OpenClaim.holds_of_wide 3 Tryz.f3 rfl rfl rfl rfl rfl rfl rfl ⟨rfl, rfl, rfl, rfl, rfl⟩ rfl rfl rfl rfl rfl (by kernel_rfl) Tryz.func3 jf_all
   (of_decide_eq_true (by kernel_rfl)) (by unfold Func.isWrapper; first | (rw [if_pos (by decide +kernel)]; kernel_rfl) | (rw [if_neg (by decide +kernel)]; exact ⟨rfl, rfl⟩))
   (fun os started H enc _ => prop_lifted os started H enc)
end Go.Proofs.YtljoobbnhbaklaaGreatDoor
namespace Go.Proofs.YtljoobbnhbaklaaGreatDoor
open Go
theorem cf_looks : true = Tryz.prog.looks [] := by kernel_rfl
end Go.Proofs.YtljoobbnhbaklaaGreatDoor
namespace Go.Proofs.YtljoobbnhbaklaaGreatDoor
open Go
theorem cf_none : Tryz.prog.funcs.any Func.goes = false := by kernel_rfl
theorem cf_each (g : Nat) : (Tryz.prog.funcs[g]?).any Func.goes = false := by
 cases hf : Tryz.prog.funcs[g]? with
 | none => rfl
 | some fn =>
   obtain ⟨hlt, he⟩ := Array.getElem?_eq_some_iff.1 hf
   have h1 : ¬ (Tryz.prog.funcs.any Func.goes = true) := by rw [cf_none]; decide
   rw [Array.any_eq_true] at h1
   exact Bool.eq_false_iff.2 fun ht => h1 ⟨g, hlt, by rw [he]; exact ht⟩
theorem cf_goesf (f : FuncId) : Tryz.prog.goes f = false := by
 unfold Program.goes
 rw [cf_none, Bool.and_false, Bool.or_false]
 rw [List.any_eq_false]
 intro g _
 rw [cf_each g]
 decide
theorem opt_none {α : Type} (o : Option α) (p : α -> Bool) (h : ∀ a, p a = false) : o.any p = false := by
 cases o with
 | none => rfl
 | some a => exact h a
theorem cf_gen (P : Program) (c : OpenClaim) (hs : c.start = .entering) (h : ∀ f, P.goes f = false) : false = c.goesBy P := by
 unfold OpenClaim.goesBy Program.goesAt Program.goesFrom
 rw [hs, opt_none _ _ h]
 rfl
theorem cf_goes : false = Rows.itemPartialsRow.goesBy Tryz.prog := cf_gen Tryz.prog Rows.itemPartialsRow rfl cf_goesf
end Go.Proofs.YtljoobbnhbaklaaGreatDoor
namespace Go.Proofs.YtljoobbnhbaklaaGreatDoor
open Go
theorem cf_wf : Rows.itemPartialsRow.wfByText (OpenSpec.ofChange Rows.itemPartialsSpec) = true := by kernel_rfl
theorem cf_fn : Tryz.prog.funcNamed Tryz.f3.name = some 3 := by kernel_rfl
theorem cf_stand : ([22, 23, 3].all fun u => !Tryz.prog.wantsStandIn u) = true := by kernel_rfl
theorem cf_main : Tryz.prog.mainIs = some (true, ("5bee80e256d772d825f4961bd3fb4cc51955f741481828da2757cb9f0f0d0825" : String).toList) := by kernel_rfl
theorem itemPartials_card : Rows.ItemPartialsCardSaid :=
 Claim7.holds_tied_plain_at .later [] [.data, .data, .data, .data, .sentinel, .sentinel, .data, .data, .pinned, .pinned] true (true, "5bee80e256d772d825f4961bd3fb4cc51955f741481828da2757cb9f0f0d0825") true
   itemPartials_holds (fun _ h => by cases h) cf_wf (fun _ h => by cases h) itemPartials_row_tie rfl ⟨rfl, rfl⟩ cf_main rfl
   (fun f fn hf hfn => by
     obtain rfl : f = 3 := Option.some.inj (cf_fn.symm.trans hf) |>.symm
     obtain rfl : fn = Tryz.f3 := (Option.some.inj (Tryz.func3.symm.trans hfn)).symm
     exact ⟨cf_looks, fun j t ht => by
       rw [Tryz.params3] at ht
       have hm : t ∈ [22, 23, 3] := by simpa using Array.mem_of_getElem? ht
       exact (show Tryz.prog.wantsStandIn t = false by simpa using List.all_eq_true.1 cf_stand t hm)⟩)
   cf_goes
end Go.Proofs.YtljoobbnhbaklaaGreatDoor
