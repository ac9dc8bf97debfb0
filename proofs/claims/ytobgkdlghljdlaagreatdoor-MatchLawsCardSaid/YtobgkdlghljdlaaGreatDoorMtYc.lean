/- What awake matches, run. -/
import Derived.Test.YtobgkdlghljdlaaGreatDoorMtY
set_option linter.unusedSectionVars false
set_option linter.unusedVariables false
set_option linter.unusedSimpArgs false
set_option linter.deprecated false
namespace Go.Proofs.YtobgkdlghljdlaaGreatDoor
open Go.Sx
set_option maxRecDepth 100000
theorem y2 : FnOK Tryz.prog 12 [.agg (oT [43] xT (nT 1)), .agg (nT 3), .slice [] []] noB := fnE_ok hdraw tabZ_ok 20000 (by kernel_rfl)
theorem y4 : FnOK Tryz.prog 12 [.agg (oT [43] xT (nT 1)), .agg (nT 3), bd2] (.tuple [bd2, .bool true]) := fnE_ok hdraw tabZ_ok 20000 (by kernel_rfl)
end Go.Proofs.YtobgkdlghljdlaaGreatDoor
