/-
  One input that fits exists: closed facts on the world in which the listed variables are laid.
-/
import Derived.Test.YthbmgkbfmddhnaaGreatDoorWitA
set_option linter.all false
namespace Go.Proofs.YthbmgkbfmddhnaaGreatDoor
open Go Go.ChangeShapes Go.WideShapes Go.ChangeAt Go.WideMaps Go.WideElems Go.RowKit
set_option maxRecDepth 100000
theorem wit_pre {H : Type} (enc : TypeId × Value → H) (os : Os) : Rows.pipelineNilSpec.preB enc Tryz.prog Tryz.f3 [] false (witW os).memory #[.int .i64 0, .slice none 0 0, .slice none 0 0] 8 = true := by kernel_rfl
theorem wit_sized {H : Type} (enc : TypeId × Value → H) (os : Os) : Rows.pipelineNilSpec.sizedB enc Tryz.prog Tryz.f3 false (witW os).memory #[.int .i64 0, .slice none 0 0, .slice none 0 0] 8 = true := by kernel_rfl
end Go.Proofs.YthbmgkbfmddhnaaGreatDoor
