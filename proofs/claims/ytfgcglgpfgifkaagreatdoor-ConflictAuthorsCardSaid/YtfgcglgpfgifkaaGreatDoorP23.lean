/- ConflictAuthors: one part of the proof. -/
import Derived.Test.YtfgcglgpfgifkaaGreatDoorP20
set_option linter.all false
namespace Go.Proofs.YtfgcglgpfgifkaaGreatDoor
open Go Go.ChangeShapes Go.WideShapes Go.ChangeAt Go.WideMaps Go.WideElems Go.RowKit
set_option maxRecDepth 100000
theorem wit_pre {H : Type} (enc : TypeId × Value → H) (os : Os) : Rows.conflictAuthorsSpec.preB enc Tryz.prog Tryz.f3 [] false (witW os).memory #[.slice none 0 0, .slice none 0 0, .slice none 0 0] 8 = true := by kernel_rfl
theorem wit_sized {H : Type} (enc : TypeId × Value → H) (os : Os) : Rows.conflictAuthorsSpec.sizedB enc Tryz.prog Tryz.f3 false (witW os).memory #[.slice none 0 0, .slice none 0 0, .slice none 0 0] 8 = true := by kernel_rfl
end Go.Proofs.YtfgcglgpfgifkaaGreatDoor
