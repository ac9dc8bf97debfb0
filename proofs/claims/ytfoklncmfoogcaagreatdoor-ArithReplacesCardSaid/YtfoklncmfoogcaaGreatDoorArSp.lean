/- Intervals in a term. -/
import Derived.Test.YtfoklncmfoogcaaGreatDoorVaC
import Derived.Test.YtfoklncmfoogcaaGreatDoorCmD
import Derived.Test.YtfoklncmfoogcaaGreatDoorSx8
set_option linter.unusedSectionVars false
set_option linter.unusedVariables false
set_option linter.unusedSimpArgs false
set_option linter.deprecated false
set_option maxRecDepth 100000
namespace Go.Proofs.YtfoklncmfoogcaaGreatDoor
open Go.Sx
end Go.Proofs.YtfoklncmfoogcaaGreatDoor
