/-
  A closed call of the run sanity() of law 15, worked out by the kernel.
-/
import Derived.Test.YtcooocbhkkmiaaaGreatDoorTab
set_option linter.all false
namespace Go.EvProp
open Go Go.Ev Go.Proofs
set_option maxRecDepth 100000
def memo8 : Memo := ⟨[.agg [.str [103], .int .i64 (.ofNat 1), .slice 80 0 1 2 none, .slice 141 0 1 3 none, .slice 206 0 2 4 none, .int .i64 (.ofNat 0)], .nilslice, .agg [.int .i64 (.ofNat 5), .int .i64 (.ofNat 1), .int .i64 (.ofNat 2), .int .i64 (.ofNat 3), .int .i64 (.ofNat 4), .nilslice, .int .i64 (.ofNat 0), .str [], .int .i64 (.ofNat 0), .int .i64 (.ofNat 0), .int .i64 (.ofNat 0), .nilslice, .nilslice, .str [], .str [], .slice 218 0 3 1 none], .slice 221 0 1 1 none], [(0, tensB), (1, powB), (80, .cells 28 [.str [97], .int .i64 (.ofNat 1)] false true), (141, .cells 31 [.str [84], .int .i64 (.ofNat 1), .int .i64 (.ofNat 3)] false true), (160, .cells 3 [.int .i64 (.ofNat 0)] false true), (201, .cells 3 [.int .i64 (.ofNat 0), .int .i64 (.ofNat 0), .int .i64 (.ofNat 0)] false true), (206, .cells 34 [.int .i64 (.ofNat 0), .str [99, 111, 108], .str [97], .etail 160 0 1 1, .int .i64 (.ofNat 0), .str [99, 111, 110, 99, 97, 116], .str [], .slice 201 1 2 1 none] false true), (218, .cells 3 [.int .i64 (.ofNat 1), .int .i64 (.negSucc 0), .int .i64 (.ofNat 0)] true true), (221, .cells 3 [.int .i64 (.ofNat 0)] true true)], 3667, .bool false, [(0, tensB), (1, powB), (80, .cells 28 [.str [97], .int .i64 (.ofNat 1)] false true), (141, .cells 31 [.str [84], .int .i64 (.ofNat 1), .int .i64 (.ofNat 3)] false true), (160, .cells 3 [.int .i64 (.ofNat 0)] false true), (201, .cells 3 [.int .i64 (.ofNat 0), .int .i64 (.ofNat 0), .int .i64 (.ofNat 0)] false true), (206, .cells 34 [.int .i64 (.ofNat 0), .str [99, 111, 108], .str [97], .etail 160 0 1 1, .int .i64 (.ofNat 0), .str [99, 111, 110, 99, 97, 116], .str [], .slice 201 1 2 1 none] false true), (218, .cells 3 [.int .i64 (.ofNat 1), .int .i64 (.negSucc 0), .int .i64 (.ofNat 0)] true true), (221, .cells 3 [.int .i64 (.ofNat 0)] true true)], 4276⟩
theorem memo8_run : memoChk memo8 ((envK Tryz.prog extP tabT.find 3000).call 12 memo8.args memo8.heap) = true := by kernel_rfl
end Go.EvProp

namespace Go.EvProp
open Go Go.Ev Go.Proofs
set_option maxRecDepth 100000
def memo9 : Memo := ⟨[.agg [.int .i64 (.ofNat 5), .int .i64 (.ofNat 1), .int .i64 (.ofNat 2), .int .i64 (.ofNat 3), .int .i64 (.ofNat 4), .nilslice, .int .i64 (.ofNat 0), .str [], .int .i64 (.ofNat 0), .int .i64 (.ofNat 0), .int .i64 (.ofNat 0), .nilslice, .nilslice, .str [], .str [], .slice 218 0 3 1 none]], [(0, tensB), (1, powB), (218, .cells 3 [.int .i64 (.ofNat 1), .int .i64 (.negSucc 0), .int .i64 (.ofNat 0)] true true)], 4276, .str [105, 116, 101, 109, 32, 53, 32, 49, 32, 50, 32, 51, 32, 52, 32, 48, 58, 32, 50, 58, 33, 48, 32, 48, 58, 32, 48, 58, 32, 49, 44, 45, 49, 44, 48], [(0, tensB), (1, powB), (218, .cells 3 [.int .i64 (.ofNat 1), .int .i64 (.negSucc 0), .int .i64 (.ofNat 0)] true true)], 4345⟩
theorem memo9_run : memoChk memo9 ((envK Tryz.prog extP tabT.find 3000).call 13 memo9.args memo9.heap) = true := by kernel_rfl
end Go.EvProp
