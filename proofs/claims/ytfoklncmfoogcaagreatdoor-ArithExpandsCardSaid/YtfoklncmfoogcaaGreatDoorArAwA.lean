/- expand,run. -/
import Derived.Test.YtfoklncmfoogcaaGreatDoorArAw
set_option linter.unusedSectionVars false
set_option linter.unusedVariables false
set_option linter.unusedSimpArgs false
set_option linter.deprecated false
namespace Go.Proofs.YtfoklncmfoogcaaGreatDoor
open Go.Sx
set_option maxRecDepth 100000
theorem aw_expand:FnOK Tryz.prog 40 [.agg bigT] (.own 4 33 sixT):=fnE_ok hdraw tabA_ok 20000 (by kernel_rfl)

end Go.Proofs.YtfoklncmfoogcaaGreatDoor
