/- trial -/
import Derived.Test.YtaclfbhhekhflaaGreatDoorRun
import Derived.Test.YtaclfbhhekhflaaGreatDoorLibT
set_option linter.all false
noncomputable section
namespace Go.Proofs.YtaclfbhhekhflaaGreatDoor.S
open Go.Sx
set_option maxRecDepth 100000
theorem rde:FK 15 [.str [58,45,32,88,32,61,32,89,46]] (dA [dU 1,dL [] [],dU 0,dI 0,dS [],dL [] [],dU 0,dI 0,dS [],dL [] [],dL [[dU 1,dU 2,dB false,dS [],dL [] [],dU 1,dU 3,dI 0,dS [88],dL [] [],dU 3,dI 0,dS [89],dL [] [],dL [] [],dB false,dU 0,dL [] [],dU 0,dU 0,dI 0,dS [],dL [] []]] [],dU 0,dI 0,dS [],dL [] [],dU 0,dI 0,dS [],dL [] [],dL [] []]):=Z41 Z3 Z2X 20000 (by kernel_rfl)
end Go.Proofs.YtaclfbhhekhflaaGreatDoor.S
