/-
  The end of the law, run for each of the 256 kinds.
-/
import Derived.Test.YtcooocbhkkmiaaaGreatDoorEndA
set_option linter.all false
namespace Go.EvProp
open Go Go.Ev Go.Proofs Go.RowKit
set_option maxRecDepth 100000
noncomputable def tryK (k : Nat) : Bool := bif Nat.beq (k % 3) 0 then tryA true k && tryA false k else bif Nat.beq (k % 3) 1 then tryB true k && tryB false k else tryC true k && tryC false k
theorem runs0 : (List.range 256).all tryK = true := by kernel_rfl
end Go.EvProp
