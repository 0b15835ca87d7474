/-
  Check and Fine on a date, with unknown values, worked out by the kernel.
-/
import Derived.Test.YtcooocbhkkmiaaaGreatDoorRunN
set_option linter.all false
namespace Go.EvProp
open Go Go.Ev Go.Proofs Go.RowKit
set_option maxRecDepth 100000

/-- notbefore, told by le. -/
def closeF (le : Bool) : List AV → H → Option (AV × H)
  | [a, .ptr bi 0, .ptr bc 0], h => bif AV.beq a (dateA 4) && hasAll h [(16, inB)] then match h.get bi, h.get bc with
    | some (.cells _ vi _ _), some (.cells _ vc _ _) => match vi.drop 5, vc with
      | x :: _, y :: _ => bif AV.beq x (.slice 16 0 1 7 (some 1)) && AV.beq y (i6 0) then some (.bool le, h) else none
      | _, _ => none
    | _, _ => none
    else none
  | _, _ => none

noncomputable def extD0 : Ext1 := fun f => bif Nat.beq f 30 then some (constF [dateA 0] (.bool true) [] (constF [dateA 4] (.bool true) [] rightE)) else extP f
noncomputable def extD (le : Bool) : Ext1 := fun f => bif Nat.beq f 84 then some (closeF le) else extD0 f

def pD : AV := .str [100]
noncomputable def runD (le : Bool) (f : FuncId) (args : List AV) : Option (AV × H) := (envK Tryz.prog (extD le) tabT.find 1000).call f args (putL ⟨.e, 17⟩ (blks 3 inB))
noncomputable def runD0 (f : FuncId) (args : List AV) : Option (AV × H) := (envK Tryz.prog extD0 tabT.find 1000).call f args (putL ⟨.e, 17⟩ (blks 3 in0B))
theorem chkD : isI0 (blks 3 inB) (runD true 8 [gA, iA nbf pD]) = true := by kernel_rfl
theorem finDa : isB true (blks 3 inB) (runD true 9 [gA, iA nbf pD, dateA 4]) = true := by kernel_rfl
theorem finDb : isB false (blks 3 inB) (runD false 9 [gA, iA nbf pD, dateA 4]) = true := by kernel_rfl
theorem finD3 : isB false (blks 3 inB) (runD true 9 [gA, iA nbf pD, noneA]) = true := by kernel_rfl
theorem finD4 : isB false (blks 3 inB) (runD true 9 [gA, iA nbf pD, textA]) = true := by kernel_rfl
theorem finD5 : isB false (blks 3 in0B) (runD0 9 [gA, iA nbf pD, dateA 4]) = true := by kernel_rfl
end Go.EvProp
