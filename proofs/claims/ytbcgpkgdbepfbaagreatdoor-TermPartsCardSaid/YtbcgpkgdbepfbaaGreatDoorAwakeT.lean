/- awake, run: true. -/
import Derived.Test.YtbcgpkgdbepfbaaGreatDoorLibT
set_option linter.unusedSectionVars false
set_option linter.unusedVariables false
set_option linter.unusedSimpArgs false
set_option linter.deprecated false
namespace Go.Proofs.YtbcgpkgdbepfbaaGreatDoor
open Go.Sx
set_option maxRecDepth 100000
theorem awake_run : fnE tab (go Tryz.prog tab 20000) 9 [] = some (.bool true) := by kernel_rfl
/-- awake returns true. -/
theorem awake_ok : FnOK Tryz.prog 9 [] (.bool true) := fnE_ok hdraw tab_ok _ awake_run
end Go.Proofs.YtbcgpkgdbepfbaaGreatDoor
