/- ConflictAuthors: one part of the proof. -/
import Derived.Test.YtfgcglgpfgifkaaGreatDoorRows
set_option linter.all false
namespace Go.Proofs.YtfgcglgpfgifkaaGreatDoor
open Go
set_option maxRecDepth 100000
theorem js_stops : Tryz.prog.stops = [] := by kernel_rfl
theorem js_knobs : Tryz.prog.stopKnobs = [] := by kernel_rfl
theorem js_heard : Tryz.prog.stopsHeard = true := by kernel_rfl
theorem js_maps : mapsRowed Tryz.prog = true := by kernel_rfl
theorem js_enter : Tryz.prog.mayEnter = true := by kernel_rfl
theorem js_plain : Tryz.prog.plainKeys = Rows.conflictAuthorsRow.plainKeys := by kernel_rfl
theorem js_lift : Tryz.prog.liftsFinal = Rows.conflictAuthorsRow.lifted := by kernel_rfl
theorem js_tie : namedTie Tryz.prog Rows.conflictAuthorsRow.named Rows.conflictAuthorsSpec.vars = true := by kernel_rfl
end Go.Proofs.YtfgcglgpfgifkaaGreatDoor
