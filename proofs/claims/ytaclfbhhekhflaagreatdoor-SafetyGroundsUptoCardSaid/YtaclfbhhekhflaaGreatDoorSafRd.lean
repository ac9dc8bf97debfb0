/- trial -/
import Derived.Test.YtaclfbhhekhflaaGreatDoorRun
import Derived.Test.YtaclfbhhekhflaaGreatDoorLibT
set_option linter.all false
noncomputable section
namespace Go.Proofs.YtaclfbhhekhflaaGreatDoor.S
open Go.Sx
set_option maxRecDepth 100000
theorem rdd:FK 15 [.str [58,45,32,35,115,117,109,123,32,87,44,88,32,58,32,113,40,87,44,88,41,32,125,32,62,32,90,44,32,110,40,90,41,46]] (dA [dU 1,dL [] [],dU 0,dI 0,dS [],dL [] [],dU 0,dI 0,dS [],dL [] [],dL [[dU 3,dU 0,dB false,dS [],dL [] [],dU 0,dU 0,dI 0,dS [],dL [] [],dU 0,dI 0,dS [],dL [] [],dL [] [],dB false,dU 2,dL [[dL [[dU 3,dI 0,dS [87],dL [] []],[dU 3,dI 0,dS [88],dL [] []]] [],dL [[dU 1,dB false,dS [113],dL [[dU 3,dI 0,dS [87],dL [] []],[dU 3,dI 0,dS [88],dL [] []]] [],dU 0,dU 0,dI 0,dS [],dL [] [],dU 0,dI 0,dS [],dL [] []]] []]] [],dU 5,dU 3,dI 0,dS [90],dL [] []],[dU 1,dU 1,dB false,dS [110],dL [[dU 3,dI 0,dS [90],dL [] []]] [],dU 0,dU 0,dI 0,dS [],dL [] [],dU 0,dI 0,dS [],dL [] [],dL [] [],dB false,dU 0,dL [] [],dU 0,dU 0,dI 0,dS [],dL [] []]] [],dU 0,dI 0,dS [],dL [] [],dU 0,dI 0,dS [],dL [] [],dL [] []]):=Z41 Z3 Z2X 20000 (by kernel_rfl)
end Go.Proofs.YtaclfbhhekhflaaGreatDoor.S
