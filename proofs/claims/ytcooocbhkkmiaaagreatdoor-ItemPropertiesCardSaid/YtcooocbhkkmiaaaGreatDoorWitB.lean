/-
  One input that fits exists: closed facts on the world in which the listed variables are laid.
-/
import Derived.Test.YtcooocbhkkmiaaaGreatDoorWitA
set_option linter.all false
namespace Go.Proofs.YtcooocbhkkmiaaaGreatDoor
open Go Go.ChangeShapes Go.WideShapes Go.ChangeAt Go.WideMaps Go.WideElems Go.RowKit
set_option maxRecDepth 100000
theorem wit_rest (os : Os) : ((witW os).heap.toList.drop Tryz.prog.globals.size).take ((begin Tryz.prog (fun _ _ => 0) default).world.heap.size - Tryz.prog.globals.size) =
      (begin Tryz.prog (fun _ _ => 0) default).world.heap.toList.drop Tryz.prog.globals.size := by kernel_rfl
theorem wit_ok (os : Os) : Input.okWideB Tryz.prog (witW os) 3 ⟨#[], #[.slice none 0 0, .slice none 0 0, .int .u8 0], []⟩ = true := by kernel_rfl
end Go.Proofs.YtcooocbhkkmiaaaGreatDoor

namespace Go.Proofs.YtcooocbhkkmiaaaGreatDoor
open Go Go.ChangeShapes Go.WideShapes Go.ChangeAt Go.WideMaps Go.WideElems Go.RowKit
set_option maxRecDepth 100000
theorem wit_pre {H : Type} (enc : TypeId × Value → H) (os : Os) : Rows.itemPropertiesSpec.preB enc Tryz.prog Tryz.f3 [] false (witW os).memory #[.slice none 0 0, .slice none 0 0, .int .u8 0] 8 = true := by kernel_rfl
theorem wit_sized {H : Type} (enc : TypeId × Value → H) (os : Os) : Rows.itemPropertiesSpec.sizedB enc Tryz.prog Tryz.f3 false (witW os).memory #[.slice none 0 0, .slice none 0 0, .int .u8 0] 8 = true := by kernel_rfl
end Go.Proofs.YtcooocbhkkmiaaaGreatDoor
