/- What awake reads. -/
import Derived.Test.YtiafmjolbacdaaaGreatSafRl
import Derived.Test.YtiafmjolbacdaaaGreatSx9
set_option linter.unusedSectionVars false
set_option linter.unusedVariables false
set_option linter.unusedSimpArgs false
set_option linter.deprecated false
namespace Go.Proofs.YtiafmjolbacdaaaGreat
open Go.Sx
set_option maxRecDepth 100000
def memA : Memo := [(65,[.str [112,40,88,44,90,41,32,58,45,32,113,40,88,44,89,43,49,41,44,32,110,111,116,32,114,40,87,41,44,32,90,32,61,32,88,42,50,46]],.tuple [.slice tokA [],.int .i64 0,.int .i64 0])]
theorem tabLx_ok : (tab.mem memA).OK Tryz.prog := tab_ok.mem_ok ⟨lexA,trivial⟩
theorem rda : FnOK Tryz.prog 21 [.str [112,40,88,44,90,41,32,58,45,32,113,40,88,44,89,43,49,41,44,32,110,111,116,32,114,40,87,41,44,32,90,32,61,32,88,42,50,46]] (D.agg [D.int .u8 1,D.slice [[D.str [112],D.slice [[D.int .u8 3,D.int .i64 0,D.str [88],D.slice [] []],[D.int .u8 3,D.int .i64 0,D.str [90],D.slice [] []]] [],D.slice [] []]] [],D.int .u8 0,D.int .i64 0,D.str [],D.slice [] [],D.int .u8 0,D.int .i64 0,D.str [],D.slice [] [],D.slice [[D.int .u8 1,D.int .u8 1,D.bool false,D.str [113],D.slice [[D.int .u8 3,D.int .i64 0,D.str [88],D.slice [] []],[D.int .u8 5,D.int .i64 0,D.str [43],D.slice [[D.int .u8 3,D.int .i64 0,D.str [89],D.slice [] []],[D.int .u8 1,D.int .i64 1,D.str [],D.slice [] []]] []]] [],D.int .u8 0,D.int .u8 0,D.int .i64 0,D.str [],D.slice [] [],D.int .u8 0,D.int .i64 0,D.str [],D.slice [] [],D.slice [] [],D.bool false,D.int .u8 0,D.slice [] [],D.int .u8 0,D.int .u8 0,D.int .i64 0,D.str [],D.slice [] []],[D.int .u8 1,D.int .u8 1,D.bool true,D.str [114],D.slice [[D.int .u8 3,D.int .i64 0,D.str [87],D.slice [] []]] [],D.int .u8 0,D.int .u8 0,D.int .i64 0,D.str [],D.slice [] [],D.int .u8 0,D.int .i64 0,D.str [],D.slice [] [],D.slice [] [],D.bool false,D.int .u8 0,D.slice [] [],D.int .u8 0,D.int .u8 0,D.int .i64 0,D.str [],D.slice [] []],[D.int .u8 1,D.int .u8 2,D.bool false,D.str [],D.slice [] [],D.int .u8 1,D.int .u8 3,D.int .i64 0,D.str [90],D.slice [] [],D.int .u8 5,D.int .i64 0,D.str [42],D.slice [[D.int .u8 3,D.int .i64 0,D.str [88],D.slice [] []],[D.int .u8 1,D.int .i64 2,D.str [],D.slice [] []]] [],D.slice [] [],D.bool false,D.int .u8 0,D.slice [] [],D.int .u8 0,D.int .u8 0,D.int .i64 0,D.str [],D.slice [] []]] [],D.int .u8 0,D.int .i64 0,D.str [],D.slice [] [],D.int .u8 0,D.int .i64 0,D.str [],D.slice [] [],D.slice [] []]) := fnE_ok hdraw tabLx_ok 20000 (by kernel_rfl)
end Go.Proofs.YtiafmjolbacdaaaGreat
