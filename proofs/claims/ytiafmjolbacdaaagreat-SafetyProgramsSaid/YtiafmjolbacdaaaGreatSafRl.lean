/- The tokens of the first source. -/
import Derived.Test.YtiafmjolbacdaaaGreatRun
import Derived.Test.YtiafmjolbacdaaaGreatLibT
set_option linter.unusedSectionVars false
set_option linter.unusedVariables false
set_option linter.unusedSimpArgs false
set_option linter.deprecated false
namespace Go.Proofs.YtiafmjolbacdaaaGreat
open Go.Sx
set_option maxRecDepth 100000
def tokA : List (List D) := [[D.int .i64 1,D.str [112],D.int .i64 0],[D.int .i64 6,D.str [40],D.int .i64 1],[D.int .i64 2,D.str [88],D.int .i64 2],[D.int .i64 6,D.str [44],D.int .i64 3],[D.int .i64 2,D.str [90],D.int .i64 4],[D.int .i64 6,D.str [41],D.int .i64 5],[D.int .i64 6,D.str [58,45],D.int .i64 7],[D.int .i64 1,D.str [113],D.int .i64 10],[D.int .i64 6,D.str [40],D.int .i64 11],[D.int .i64 2,D.str [88],D.int .i64 12],[D.int .i64 6,D.str [44],D.int .i64 13],[D.int .i64 2,D.str [89],D.int .i64 14],[D.int .i64 6,D.str [43],D.int .i64 15],[D.int .i64 3,D.str [49],D.int .i64 16],[D.int .i64 6,D.str [41],D.int .i64 17],[D.int .i64 6,D.str [44],D.int .i64 18],[D.int .i64 4,D.str [110,111,116],D.int .i64 20],[D.int .i64 1,D.str [114],D.int .i64 24],[D.int .i64 6,D.str [40],D.int .i64 25],[D.int .i64 2,D.str [87],D.int .i64 26],[D.int .i64 6,D.str [41],D.int .i64 27],[D.int .i64 6,D.str [44],D.int .i64 28],[D.int .i64 2,D.str [90],D.int .i64 30],[D.int .i64 6,D.str [61],D.int .i64 32],[D.int .i64 2,D.str [88],D.int .i64 34],[D.int .i64 6,D.str [42],D.int .i64 35],[D.int .i64 3,D.str [50],D.int .i64 36],[D.int .i64 6,D.str [46],D.int .i64 37]]
theorem lexA : FnOK Tryz.prog 65 [.str [112,40,88,44,90,41,32,58,45,32,113,40,88,44,89,43,49,41,44,32,110,111,116,32,114,40,87,41,44,32,90,32,61,32,88,42,50,46]] (.tuple [.slice tokA [],.int .i64 0,.int .i64 0]) := fnE_ok hdraw tab_ok 20000 (by kernel_rfl)
end Go.Proofs.YtiafmjolbacdaaaGreat
