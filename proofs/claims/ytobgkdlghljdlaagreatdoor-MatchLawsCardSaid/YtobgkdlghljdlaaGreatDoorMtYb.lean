/- What awake matches, run. -/
import Derived.Test.YtobgkdlghljdlaaGreatDoorMtY
set_option linter.unusedSectionVars false
set_option linter.unusedVariables false
set_option linter.unusedSimpArgs false
set_option linter.deprecated false
namespace Go.Proofs.YtobgkdlghljdlaaGreatDoor
open Go.Sx
set_option maxRecDepth 100000
theorem y3 : FnOK Tryz.prog 12 [.agg (fT xT (gT yT)), .agg (fT (nT 1) (gT aT)), .slice [] []] (.tuple [.slice [pX [88] (nT 1), pX [89] aT] [], .bool true]) := fnE_ok hdraw tabZ_ok 20000 (by kernel_rfl)
end Go.Proofs.YtobgkdlghljdlaaGreatDoor
