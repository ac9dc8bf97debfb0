/- What awake matches, run. -/
import Derived.Test.YtobgkdlghljdlaaGreatDoorMtY
set_option linter.unusedSectionVars false
set_option linter.unusedVariables false
set_option linter.unusedSimpArgs false
set_option linter.deprecated false
namespace Go.Proofs.YtobgkdlghljdlaaGreatDoor
open Go.Sx
set_option maxRecDepth 100000
theorem y1 : FnOK Tryz.prog 12 [.agg (fT xT xT), .agg (fT (nT 1) (nT 2)), .slice [] []] noB := fnE_ok hdraw tabZ_ok 20000 (by kernel_rfl)
theorem y7 : FnOK Tryz.prog 20 [.agg (oT [43] xT yT), bd2] (.agg (oT [43] (nT 2) yT)) := fnE_ok hdraw tabZ_ok 20000 (by kernel_rfl)
end Go.Proofs.YtobgkdlghljdlaaGreatDoor
