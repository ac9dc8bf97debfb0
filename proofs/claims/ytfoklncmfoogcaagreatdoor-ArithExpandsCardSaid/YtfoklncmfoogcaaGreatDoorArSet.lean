/- arith.set,run. -/
import Derived.Test.YtfoklncmfoogcaaGreatDoorArOpB
import Derived.Test.YtfoklncmfoogcaaGreatDoorSx8
set_option linter.unusedSectionVars false
set_option linter.unusedVariables false
set_option linter.unusedSimpArgs false
set_option linter.deprecated false
set_option maxRecDepth 100000
namespace Go.Proofs.YtfoklncmfoogcaaGreatDoor
open Go.Sx
theorem set_run {q res:List Int} (h:callE tab (go Tryz.prog tab 3000) (.func (.func 84) [] []) [.vec 0] [(0,.arr false 4 33 (numC q))]=some (.vec 0,[(0,.arr false 4 33 (numC res))])):SetC q res :=
 CallL.frz (callE_ok hdraw tab_ok 3000 h)
theorem set0:SetC [] []:=set_run (by kernel_rfl)
theorem set1 (n:Int):SetC [n] [n]:=set_run (by kernel_rfl)
theorem set246:SetC [2,4,6] [2,4,6]:=set_run (by kernel_rfl)
theorem set264:SetC [2,6,4] [2,4,6]:=set_run (by kernel_rfl)
theorem set426:SetC [4,2,6] [2,4,6]:=set_run (by kernel_rfl)
theorem set462:SetC [4,6,2] [2,4,6]:=set_run (by kernel_rfl)
theorem set624:SetC [6,2,4] [2,4,6]:=set_run (by kernel_rfl)
theorem set642:SetC [6,4,2] [2,4,6]:=set_run (by kernel_rfl)
end Go.Proofs.YtfoklncmfoogcaaGreatDoor
