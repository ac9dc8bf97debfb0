/- Valid,Ground,Eval,run. -/
import Derived.Test.YtfoklncmfoogcaaGreatDoorArAw
set_option linter.unusedSectionVars false
set_option linter.unusedVariables false
set_option linter.unusedSimpArgs false
set_option linter.deprecated false
namespace Go.Proofs.YtfoklncmfoogcaaGreatDoor
open Go.Sx
set_option maxRecDepth 100000
theorem aw_valid:FnOK Tryz.prog 20 [.agg bigT] (.bool true):=fnE_ok hdraw tabA_ok 20000 (by kernel_rfl)
theorem aw_ground:FnOK Tryz.prog 21 [.agg bigT] (.bool true):=fnE_ok hdraw tabA_ok 20000 (by kernel_rfl)
theorem aw_e2:FnOK Tryz.prog 25 [.agg (oT [43] aT (nT 1))] noT:=fnE_ok hdraw tabA_ok 20000 (by kernel_rfl)
theorem aw_e3:FnOK Tryz.prog 25 [.agg (oT [47] (nT 1) (nT 0))] noT:=fnE_ok hdraw tabA_ok 20000 (by kernel_rfl)
theorem aw_e4:FnOK Tryz.prog 25 [.agg (oT [43] (nT 2147483647) (nT 1))] noT:=fnE_ok hdraw tabA_ok 20000 (by kernel_rfl)

end Go.Proofs.YtfoklncmfoogcaaGreatDoor
