/- ItemPartials, one part of the proof: PartWitD. -/
import Derived.Test.YtljoobbnhbaklaaGreatDoorP39
set_option linter.all false
set_option maxRecDepth 100000
set_option maxHeartbeats 16000000
namespace Go.Proofs.YtljoobbnhbaklaaGreatDoor
open Go Go.ChangeShapes Go.WideShapes Go.ChangeAt Go.WideMaps Go.WideElems Go.RowKit
theorem wit_pre {H : Type} (enc : TypeId × Value -> H) (os : Os) : Rows.itemPartialsSpec.preB enc Tryz.prog Tryz.f3 [] false (witW os).memory #[.slice none 0 0, .agg #[.int .i64 0, .int .i64 0], .int .i64 0] 8 = true := by kernel_rfl
theorem wit_sized {H : Type} (enc : TypeId × Value -> H) (os : Os) : Rows.itemPartialsSpec.sizedB enc Tryz.prog Tryz.f3 false (witW os).memory #[.slice none 0 0, .agg #[.int .i64 0, .int .i64 0], .int .i64 0] 8 = true := by kernel_rfl
end Go.Proofs.YtljoobbnhbaklaaGreatDoor
