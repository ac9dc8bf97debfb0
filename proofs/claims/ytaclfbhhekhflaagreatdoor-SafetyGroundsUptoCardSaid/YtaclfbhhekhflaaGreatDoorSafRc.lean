/- trial -/
import Derived.Test.YtaclfbhhekhflaaGreatDoorRun
import Derived.Test.YtaclfbhhekhflaaGreatDoorLibT
set_option linter.all false
noncomputable section
namespace Go.Proofs.YtaclfbhhekhflaaGreatDoor.S
open Go.Sx
set_option maxRecDepth 100000
theorem rdc:FK 15 [.str [123,32,112,40,88,44,89,41,32,58,32,113,40,89,41,32,125,32,58,45,32,114,40,88,41,46]] (dA [dU 2,dL [[dS [112],dL [[dU 3,dI 0,dS [88],dL [] []],[dU 3,dI 0,dS [89],dL [] []]] [],dL [[dU 1,dB false,dS [113],dL [[dU 3,dI 0,dS [89],dL [] []]] [],dU 0,dU 0,dI 0,dS [],dL [] [],dU 0,dI 0,dS [],dL [] []]] []]] [],dU 0,dI 0,dS [],dL [] [],dU 0,dI 0,dS [],dL [] [],dL [[dU 1,dU 1,dB false,dS [114],dL [[dU 3,dI 0,dS [88],dL [] []]] [],dU 0,dU 0,dI 0,dS [],dL [] [],dU 0,dI 0,dS [],dL [] [],dL [] [],dB false,dU 0,dL [] [],dU 0,dU 0,dI 0,dS [],dL [] []]] [],dU 0,dI 0,dS [],dL [] [],dU 0,dI 0,dS [],dL [] [],dL [] []]):=Z41 Z3 Z2X 20000 (by kernel_rfl)
end Go.Proofs.YtaclfbhhekhflaaGreatDoor.S
