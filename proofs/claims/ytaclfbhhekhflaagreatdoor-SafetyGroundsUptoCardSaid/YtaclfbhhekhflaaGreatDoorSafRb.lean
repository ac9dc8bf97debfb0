/- What awake reads. -/
import Derived.Test.YtaclfbhhekhflaaGreatDoorSafRm
import Derived.Test.YtaclfbhhekhflaaGreatDoorSx11
set_option linter.all false
noncomputable section
namespace Go.Proofs.YtaclfbhhekhflaaGreatDoor.S
open Go.Sx
set_option maxRecDepth 100000
def memB:Memo:=[(97,[.str [97,32,58,45,32,98,40,88,41,32,58,32,99,40,89,41,44,32,89,32,61,32,88,59,32,100,40,90,43,49,41,46]],.tuple [.slice tokB [],.int .i64 0,.int .i64 0])]
theorem Zft:(tab.mem memB).OK Tryz.prog:=Z2X.mem_ok ⟨lexB,trivial⟩
theorem rdb:FK 15 [.str [97,32,58,45,32,98,40,88,41,32,58,32,99,40,89,41,44,32,89,32,61,32,88,59,32,100,40,90,43,49,41,46]] (dA [dU 1,dL [[dS [97],dL [] [],dL [] []]] [],dU 0,dI 0,dS [],dL [] [],dU 0,dI 0,dS [],dL [] [],dL [[dU 2,dU 1,dB false,dS [98],dL [[dU 3,dI 0,dS [88],dL [] []]] [],dU 0,dU 0,dI 0,dS [],dL [] [],dU 0,dI 0,dS [],dL [] [],dL [[dU 1,dB false,dS [99],dL [[dU 3,dI 0,dS [89],dL [] []]] [],dU 0,dU 0,dI 0,dS [],dL [] [],dU 0,dI 0,dS [],dL [] []],[dU 2,dB false,dS [],dL [] [],dU 1,dU 3,dI 0,dS [89],dL [] [],dU 3,dI 0,dS [88],dL [] []]] [],dB false,dU 0,dL [] [],dU 0,dU 0,dI 0,dS [],dL [] []],[dU 1,dU 1,dB false,dS [100],dL [[dU 5,dI 0,dS [43],dL [[dU 3,dI 0,dS [90],dL [] []],[dU 1,dI 1,dS [],dL [] []]] []]] [],dU 0,dU 0,dI 0,dS [],dL [] [],dU 0,dI 0,dS [],dL [] [],dL [] [],dB false,dU 0,dL [] [],dU 0,dU 0,dI 0,dS [],dL [] []]] [],dU 0,dI 0,dS [],dL [] [],dU 0,dI 0,dS [],dL [] [],dL [] []]):=Z41 Z3 Zft 20000 (by kernel_rfl)
end Go.Proofs.YtaclfbhhekhflaaGreatDoor.S
