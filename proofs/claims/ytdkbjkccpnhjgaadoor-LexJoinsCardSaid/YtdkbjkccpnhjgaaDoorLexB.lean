/- The three other sources of awake, lexed. -/
import Derived.Test.YtdkbjkccpnhjgaaDoorRun
set_option linter.unusedSectionVars false
set_option linter.unusedVariables false
set_option linter.unusedSimpArgs false
set_option linter.deprecated false
namespace Go.Proofs.YtdkbjkccpnhjgaaDoor
open Go.Sx
def srcB : List UInt8 := [97, 32, 35, 99, 111, 115, 116]
def srcC : List UInt8 := [120, 32, 61, 32, 48, 48, 55]
def srcD : List UInt8 := [97, 32, 33, 32, 98]
set_option maxRecDepth 100000
theorem lexB : fnE tab (go Tryd.prog tab 20000) 11 [.str srcB] = some (.tuple [.slice [] [], .int .i64 2, .int .i64 31]) := by kernel_rfl
theorem lexC : fnE tab (go Tryd.prog tab 20000) 11 [.str srcC] = some (.tuple [.slice [] [], .int .i64 4, .int .i64 32]) := by kernel_rfl
theorem lexD : fnE tab (go Tryd.prog tab 20000) 11 [.str srcD] = some (.tuple [.slice [] [], .int .i64 2, .int .i64 30]) := by kernel_rfl
end Go.Proofs.YtdkbjkccpnhjgaaDoor
