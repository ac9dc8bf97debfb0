/- What awake reads. -/
import Derived.Test.YtaclfbhhekhflaaGreatDoorSafRl
import Derived.Test.YtaclfbhhekhflaaGreatDoorSx11
set_option linter.all false
noncomputable section
namespace Go.Proofs.YtaclfbhhekhflaaGreatDoor.S
open Go.Sx
set_option maxRecDepth 100000
def memA:Memo:=[(97,[.str [112,40,88,44,90,41,32,58,45,32,113,40,88,44,89,43,49,41,44,32,110,111,116,32,114,40,87,41,44,32,90,32,61,32,88,42,50,46]],.tuple [.slice tokA [],.int .i64 0,.int .i64 0])]
theorem Zfu:(tab.mem memA).OK Tryz.prog:=Z2X.mem_ok ⟨lexA,trivial⟩
theorem rda:FK 15 [.str [112,40,88,44,90,41,32,58,45,32,113,40,88,44,89,43,49,41,44,32,110,111,116,32,114,40,87,41,44,32,90,32,61,32,88,42,50,46]] (dA [dU 1,dL [[dS [112],dL [[dU 3,dI 0,dS [88],dL [] []],[dU 3,dI 0,dS [90],dL [] []]] [],dL [] []]] [],dU 0,dI 0,dS [],dL [] [],dU 0,dI 0,dS [],dL [] [],dL [[dU 1,dU 1,dB false,dS [113],dL [[dU 3,dI 0,dS [88],dL [] []],[dU 5,dI 0,dS [43],dL [[dU 3,dI 0,dS [89],dL [] []],[dU 1,dI 1,dS [],dL [] []]] []]] [],dU 0,dU 0,dI 0,dS [],dL [] [],dU 0,dI 0,dS [],dL [] [],dL [] [],dB false,dU 0,dL [] [],dU 0,dU 0,dI 0,dS [],dL [] []],[dU 1,dU 1,dB true,dS [114],dL [[dU 3,dI 0,dS [87],dL [] []]] [],dU 0,dU 0,dI 0,dS [],dL [] [],dU 0,dI 0,dS [],dL [] [],dL [] [],dB false,dU 0,dL [] [],dU 0,dU 0,dI 0,dS [],dL [] []],[dU 1,dU 2,dB false,dS [],dL [] [],dU 1,dU 3,dI 0,dS [90],dL [] [],dU 5,dI 0,dS [42],dL [[dU 3,dI 0,dS [88],dL [] []],[dU 1,dI 2,dS [],dL [] []]] [],dL [] [],dB false,dU 0,dL [] [],dU 0,dU 0,dI 0,dS [],dL [] []]] [],dU 0,dI 0,dS [],dL [] [],dU 0,dI 0,dS [],dL [] [],dL [] []]):=Z41 Z3 Zfu 20000 (by kernel_rfl)
end Go.Proofs.YtaclfbhhekhflaaGreatDoor.S
