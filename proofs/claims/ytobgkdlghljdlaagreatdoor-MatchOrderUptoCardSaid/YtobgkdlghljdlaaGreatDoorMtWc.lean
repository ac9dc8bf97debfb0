/- What awake reads. -/
import Derived.Test.YtobgkdlghljdlaaGreatDoorMtF
set_option linter.unusedSectionVars false
set_option linter.unusedVariables false
set_option linter.unusedSimpArgs false
set_option linter.deprecated false
namespace Go.Proofs.YtobgkdlghljdlaaGreatDoor
open Go.Sx
set_option maxRecDepth 100000
theorem rf1g:FK 31 [.str [102,40,49,44,103,40,97,41,41]] (.agg (fT (nT 1) (gT aT))):=Qp Z4 Qe 20000 (by kernel_rfl)
theorem rfx1:FK 31 [.str [102,40,88,43,49,44,88,41]] (.agg (fT (oT [43] xT (nT 1)) xT)):=Qp Z4 Qe 20000 (by kernel_rfl)
theorem rf32:FK 31 [.str [102,40,51,44,50,41]] (.agg (fT (nT 3) (nT 2))):=Qp Z4 Qe 20000 (by kernel_rfl)
end Go.Proofs.YtobgkdlghljdlaaGreatDoor
