/- What awake reads. -/
import Derived.Test.YtiafmjolbacdaaaGreatSafRm
import Derived.Test.YtiafmjolbacdaaaGreatSx9
set_option linter.unusedSectionVars false
set_option linter.unusedVariables false
set_option linter.unusedSimpArgs false
set_option linter.deprecated false
namespace Go.Proofs.YtiafmjolbacdaaaGreat
open Go.Sx
set_option maxRecDepth 100000
def memB : Memo := [(65,[.str [97,32,58,45,32,98,40,88,41,32,58,32,99,40,89,41,44,32,89,32,61,32,88,59,32,100,40,90,43,49,41,46]],.tuple [.slice tokB [],.int .i64 0,.int .i64 0])]
theorem tabLy_ok : (tab.mem memB).OK Tryz.prog := tab_ok.mem_ok ⟨lexB,trivial⟩
theorem rdb : FnOK Tryz.prog 21 [.str [97,32,58,45,32,98,40,88,41,32,58,32,99,40,89,41,44,32,89,32,61,32,88,59,32,100,40,90,43,49,41,46]] (D.agg [D.int .u8 1,D.slice [[D.str [97],D.slice [] [],D.slice [] []]] [],D.int .u8 0,D.int .i64 0,D.str [],D.slice [] [],D.int .u8 0,D.int .i64 0,D.str [],D.slice [] [],D.slice [[D.int .u8 2,D.int .u8 1,D.bool false,D.str [98],D.slice [[D.int .u8 3,D.int .i64 0,D.str [88],D.slice [] []]] [],D.int .u8 0,D.int .u8 0,D.int .i64 0,D.str [],D.slice [] [],D.int .u8 0,D.int .i64 0,D.str [],D.slice [] [],D.slice [[D.int .u8 1,D.bool false,D.str [99],D.slice [[D.int .u8 3,D.int .i64 0,D.str [89],D.slice [] []]] [],D.int .u8 0,D.int .u8 0,D.int .i64 0,D.str [],D.slice [] [],D.int .u8 0,D.int .i64 0,D.str [],D.slice [] []],[D.int .u8 2,D.bool false,D.str [],D.slice [] [],D.int .u8 1,D.int .u8 3,D.int .i64 0,D.str [89],D.slice [] [],D.int .u8 3,D.int .i64 0,D.str [88],D.slice [] []]] [],D.bool false,D.int .u8 0,D.slice [] [],D.int .u8 0,D.int .u8 0,D.int .i64 0,D.str [],D.slice [] []],[D.int .u8 1,D.int .u8 1,D.bool false,D.str [100],D.slice [[D.int .u8 5,D.int .i64 0,D.str [43],D.slice [[D.int .u8 3,D.int .i64 0,D.str [90],D.slice [] []],[D.int .u8 1,D.int .i64 1,D.str [],D.slice [] []]] []]] [],D.int .u8 0,D.int .u8 0,D.int .i64 0,D.str [],D.slice [] [],D.int .u8 0,D.int .i64 0,D.str [],D.slice [] [],D.slice [] [],D.bool false,D.int .u8 0,D.slice [] [],D.int .u8 0,D.int .u8 0,D.int .i64 0,D.str [],D.slice [] []]] [],D.int .u8 0,D.int .i64 0,D.str [],D.slice [] [],D.int .u8 0,D.int .i64 0,D.str [],D.slice [] [],D.slice [] []]) := fnE_ok hdraw tabLy_ok 20000 (by kernel_rfl)
end Go.Proofs.YtiafmjolbacdaaaGreat
