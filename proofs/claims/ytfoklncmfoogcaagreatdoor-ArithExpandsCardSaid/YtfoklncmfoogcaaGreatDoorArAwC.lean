/- Eval,Expand,run. -/
import Derived.Test.YtfoklncmfoogcaaGreatDoorArAw
set_option linter.unusedSectionVars false
set_option linter.unusedVariables false
set_option linter.unusedSimpArgs false
set_option linter.deprecated false
namespace Go.Proofs.YtfoklncmfoogcaaGreatDoor
open Go.Sx
set_option maxRecDepth 100000
theorem aw_e1:FnOK Tryz.prog 25 [.agg f1T] (.tuple [.agg (fT (nT 5) aT),.bool true]):=fnE_ok hdraw tabA_ok 20000 (by kernel_rfl)
theorem aw_x2:FnOK Tryz.prog 15 [.agg (rT (nT 3) (nT 1))] (.tuple [.slice [] [],.int .i64 0]):=fnE_ok hdraw tabA_ok 20000 (by kernel_rfl)
theorem aw_x3:FnOK Tryz.prog 15 [.agg (rT (rT (nT 1) (nT 2)) (rT (nT 3) (nT 4)))] (.tuple [.slice [nT 1,nT 2,nT 3,nT 4] [],.int .i64 0]):=fnE_ok hdraw tabA_ok 20000 (by kernel_rfl)

end Go.Proofs.YtfoklncmfoogcaaGreatDoor
