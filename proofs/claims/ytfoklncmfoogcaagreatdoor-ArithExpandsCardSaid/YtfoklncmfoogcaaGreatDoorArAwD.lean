/- awake,run: true. -/
import Derived.Test.YtfoklncmfoogcaaGreatDoorArAwA
import Derived.Test.YtfoklncmfoogcaaGreatDoorArAwB
import Derived.Test.YtfoklncmfoogcaaGreatDoorArAwC
set_option linter.unusedSectionVars false
set_option linter.unusedVariables false
set_option linter.unusedSimpArgs false
set_option linter.deprecated false
namespace Go.Proofs.YtfoklncmfoogcaaGreatDoor
open Go.Sx
set_option maxRecDepth 100000
def tabB:Tab:=tabA.mem [(40,[.agg bigT],.own 4 33 sixT),(20,[.agg bigT],.bool true),(21,[.agg bigT],.bool true)]
theorem tabB_ok:tabB.OK Tryz.prog:=tabA_ok.mem_ok ⟨aw_expand,aw_valid,aw_ground,trivial⟩
theorem aw_x1:FnOK Tryz.prog 15 [.agg bigT] (.tuple [.slice sixT [],.int .i64 0]):=fnE_ok hdraw tabB_ok 20000 (by kernel_rfl)
def tabC:Tab:=tabA.mem [(25,[.agg f1T],.tuple [.agg (fT (nT 5) aT),.bool true]),(25,[.agg (oT [43] aT (nT 1))],noT),(25,[.agg (oT [47] (nT 1) (nT 0))],noT),(25,[.agg (oT [43] (nT 2147483647) (nT 1))],noT),
 (15,[.agg bigT],.tuple [.slice sixT [],.int .i64 0]),(15,[.agg (rT (nT 3) (nT 1))],.tuple [.slice [] [],.int .i64 0]),(15,[.agg (rT (rT (nT 1) (nT 2)) (rT (nT 3) (nT 4)))],.tuple [.slice [nT 1,nT 2,nT 3,nT 4] [],.int .i64 0])]
theorem tabC_ok:tabC.OK Tryz.prog:=tabA_ok.mem_ok ⟨aw_e1,aw_e2,aw_e3,aw_e4,aw_x1,aw_x2,aw_x3,trivial⟩
theorem awake_ok:FnOK Tryz.prog 8 [] (.bool true):=fnE_ok hdraw tabC_ok 20000 (by kernel_rfl)
end Go.Proofs.YtfoklncmfoogcaaGreatDoor
