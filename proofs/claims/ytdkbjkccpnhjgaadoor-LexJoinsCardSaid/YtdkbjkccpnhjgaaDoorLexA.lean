/- The first source of awake, lexed. -/
import Derived.Test.YtdkbjkccpnhjgaaDoorRun
set_option linter.unusedSectionVars false
set_option linter.unusedVariables false
set_option linter.unusedSimpArgs false
set_option linter.deprecated false
namespace Go.Proofs.YtdkbjkccpnhjgaaDoor
open Go.Sx
def tk (n : Int) (t : List UInt8) (a : Int) : List D := [.int .u8 n, .str t, .int .i64 a]
def srcA : List UInt8 := [112, 40, 88, 41, 32, 58, 45, 32, 113, 40, 49, 46, 46, 110, 41, 44, 32, 110, 111, 116, 32, 114, 46, 32, 37, 32, 99]
def toksA : List (List D) := [tk 1 [112] 0, tk 6 [40] 1, tk 2 [88] 2, tk 6 [41] 3, tk 6 [58, 45] 5, tk 1 [113] 8, tk 6 [40] 9, tk 3 [49] 10, tk 6 [46, 46] 11, tk 1 [110] 13, tk 6 [41] 14, tk 6 [44] 15, tk 4 [110, 111, 116] 17, tk 1 [114] 21, tk 6 [46] 22]
set_option maxRecDepth 100000
theorem lexA : fnE tab (go Tryd.prog tab 40000) 11 [.str srcA] = some (.tuple [.slice toksA [], .int .i64 0, .int .i64 0]) := by kernel_rfl
end Go.Proofs.YtdkbjkccpnhjgaaDoor
