/- The tokens of the second source. -/
import Derived.Test.YtiafmjolbacdaaaGreatRun
import Derived.Test.YtiafmjolbacdaaaGreatLibT
set_option linter.unusedSectionVars false
set_option linter.unusedVariables false
set_option linter.unusedSimpArgs false
set_option linter.deprecated false
namespace Go.Proofs.YtiafmjolbacdaaaGreat
open Go.Sx
set_option maxRecDepth 100000
def tokB : List (List D) := [[D.int .i64 1,D.str [97],D.int .i64 0],[D.int .i64 6,D.str [58,45],D.int .i64 2],[D.int .i64 1,D.str [98],D.int .i64 5],[D.int .i64 6,D.str [40],D.int .i64 6],[D.int .i64 2,D.str [88],D.int .i64 7],[D.int .i64 6,D.str [41],D.int .i64 8],[D.int .i64 6,D.str [58],D.int .i64 10],[D.int .i64 1,D.str [99],D.int .i64 12],[D.int .i64 6,D.str [40],D.int .i64 13],[D.int .i64 2,D.str [89],D.int .i64 14],[D.int .i64 6,D.str [41],D.int .i64 15],[D.int .i64 6,D.str [44],D.int .i64 16],[D.int .i64 2,D.str [89],D.int .i64 18],[D.int .i64 6,D.str [61],D.int .i64 20],[D.int .i64 2,D.str [88],D.int .i64 22],[D.int .i64 6,D.str [59],D.int .i64 23],[D.int .i64 1,D.str [100],D.int .i64 25],[D.int .i64 6,D.str [40],D.int .i64 26],[D.int .i64 2,D.str [90],D.int .i64 27],[D.int .i64 6,D.str [43],D.int .i64 28],[D.int .i64 3,D.str [49],D.int .i64 29],[D.int .i64 6,D.str [41],D.int .i64 30],[D.int .i64 6,D.str [46],D.int .i64 31]]
theorem lexB : FnOK Tryz.prog 65 [.str [97,32,58,45,32,98,40,88,41,32,58,32,99,40,89,41,44,32,89,32,61,32,88,59,32,100,40,90,43,49,41,46]] (.tuple [.slice tokB [],.int .i64 0,.int .i64 0]) := fnE_ok hdraw tab_ok 20000 (by kernel_rfl)
end Go.Proofs.YtiafmjolbacdaaaGreat
