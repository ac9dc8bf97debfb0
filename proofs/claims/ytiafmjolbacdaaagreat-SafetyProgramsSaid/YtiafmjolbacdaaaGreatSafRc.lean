/- trial -/
import Derived.Test.YtiafmjolbacdaaaGreatRun
import Derived.Test.YtiafmjolbacdaaaGreatLibT
set_option linter.unusedSectionVars false
set_option linter.unusedVariables false
set_option linter.unusedSimpArgs false
set_option linter.deprecated false
namespace Go.Proofs.YtiafmjolbacdaaaGreat
open Go.Sx
set_option maxRecDepth 100000
theorem rdc : FnOK Tryz.prog 21 [.str [123,32,112,40,88,44,89,41,32,58,32,113,40,89,41,32,125,32,58,45,32,114,40,88,41,46]] (D.agg [D.int .u8 2,D.slice [[D.str [112],D.slice [[D.int .u8 3,D.int .i64 0,D.str [88],D.slice [] []],[D.int .u8 3,D.int .i64 0,D.str [89],D.slice [] []]] [],D.slice [[D.int .u8 1,D.bool false,D.str [113],D.slice [[D.int .u8 3,D.int .i64 0,D.str [89],D.slice [] []]] [],D.int .u8 0,D.int .u8 0,D.int .i64 0,D.str [],D.slice [] [],D.int .u8 0,D.int .i64 0,D.str [],D.slice [] []]] []]] [],D.int .u8 0,D.int .i64 0,D.str [],D.slice [] [],D.int .u8 0,D.int .i64 0,D.str [],D.slice [] [],D.slice [[D.int .u8 1,D.int .u8 1,D.bool false,D.str [114],D.slice [[D.int .u8 3,D.int .i64 0,D.str [88],D.slice [] []]] [],D.int .u8 0,D.int .u8 0,D.int .i64 0,D.str [],D.slice [] [],D.int .u8 0,D.int .i64 0,D.str [],D.slice [] [],D.slice [] [],D.bool false,D.int .u8 0,D.slice [] [],D.int .u8 0,D.int .u8 0,D.int .i64 0,D.str [],D.slice [] []]] [],D.int .u8 0,D.int .i64 0,D.str [],D.slice [] [],D.int .u8 0,D.int .i64 0,D.str [],D.slice [] [],D.slice [] []]) := fnE_ok hdraw tab_ok 20000 (by kernel_rfl)
end Go.Proofs.YtiafmjolbacdaaaGreat
