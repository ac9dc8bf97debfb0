/- What awake reads. -/
import Derived.Test.YtobgkdlghljdlaaGreatDoorMtF
set_option linter.unusedSectionVars false
set_option linter.unusedVariables false
set_option linter.unusedSimpArgs false
set_option linter.deprecated false
namespace Go.Proofs.YtobgkdlghljdlaaGreatDoor
open Go.Sx
set_option maxRecDepth 100000
theorem rfxx:FK 31 [.str [102,40,88,44,88,41]] (.agg (fT xT xT)):=Qp Z4 Qe 20000 (by kernel_rfl)
theorem rf12:FK 31 [.str [102,40,49,44,50,41]] (.agg (fT (nT 1) (nT 2))):=Qp Z4 Qe 20000 (by kernel_rfl)
theorem rfxg:FK 31 [.str [102,40,88,44,103,40,89,41,41]] (.agg (fT xT (gT yT))):=Qp Z4 Qe 20000 (by kernel_rfl)
end Go.Proofs.YtobgkdlghljdlaaGreatDoor
