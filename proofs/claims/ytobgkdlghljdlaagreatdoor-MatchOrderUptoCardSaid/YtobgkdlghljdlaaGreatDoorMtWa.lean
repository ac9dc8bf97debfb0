/- What awake reads. -/
import Derived.Test.YtobgkdlghljdlaaGreatDoorMtF
set_option linter.unusedSectionVars false
set_option linter.unusedVariables false
set_option linter.unusedSimpArgs false
set_option linter.deprecated false
namespace Go.Proofs.YtobgkdlghljdlaaGreatDoor
open Go.Sx
set_option maxRecDepth 100000
theorem r2:FK 31 [.str [50]] (.agg (nT 2)):=Qp Z4 Qe 20000 (by kernel_rfl)
theorem r1:FK 31 [.str [49]] (.agg (nT 1)):=Qp Z4 Qe 20000 (by kernel_rfl)
theorem ra:FK 31 [.str [97]] (.agg (aT)):=Qp Z4 Qe 20000 (by kernel_rfl)
theorem r3:FK 31 [.str [51]] (.agg (nT 3)):=Qp Z4 Qe 20000 (by kernel_rfl)
theorem rx1:FK 31 [.str [88,43,49]] (.agg (oT [43] xT (nT 1))):=Qp Z4 Qe 20000 (by kernel_rfl)
theorem r13:FK 31 [.str [49,46,46,51]] (.agg (rT (nT 1) (nT 3))):=Qp Z4 Qe 20000 (by kernel_rfl)
theorem rxy:FK 31 [.str [88,43,89]] (.agg (oT [43] xT yT)):=Qp Z4 Qe 20000 (by kernel_rfl)
theorem r2y:FK 31 [.str [50,43,89]] (.agg (oT [43] (nT 2) yT)):=Qp Z4 Qe 20000 (by kernel_rfl)
end Go.Proofs.YtobgkdlghljdlaaGreatDoor
