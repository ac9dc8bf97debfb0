/- awake, run: true. -/
import Derived.Test.YtobgkdlghljdlaaGreatDoorMtX
import Derived.Test.YtobgkdlghljdlaaGreatDoorMtYa
import Derived.Test.YtobgkdlghljdlaaGreatDoorMtYb
import Derived.Test.YtobgkdlghljdlaaGreatDoorMtYc
import Derived.Test.YtobgkdlghljdlaaGreatDoorMtYd
import Derived.Test.YtobgkdlghljdlaaGreatDoorMtYe
set_option linter.unusedSectionVars false
set_option linter.unusedVariables false
set_option linter.unusedSimpArgs false
set_option linter.deprecated false
namespace Go.Proofs.YtobgkdlghljdlaaGreatDoor
open Go.Sx
set_option maxRecDepth 100000
def maL : List (FuncId × List D × D) := [(12, [.agg (fT xT xT), .agg (fT (nT 1) (nT 2)), .slice [] []], noB),
  (12, [.agg (oT [43] xT (nT 1)), .agg (nT 3), .slice [] []], noB),
  (12, [.agg (fT xT (gT yT)), .agg (fT (nT 1) (gT aT)), .slice [] []], (.tuple [.slice [pX [88] (nT 1), pX [89] aT] [], .bool true])),
  (12, [.agg (oT [43] xT (nT 1)), .agg (nT 3), bd2], (.tuple [bd2, .bool true])),
  (12, [.agg (rT (nT 1) (nT 3)), .agg (nT 2), .slice [] []], (.tuple [.slice [] [], .bool true])),
  (12, [.agg (fT (oT [43] xT (nT 1)) xT), .agg (fT (nT 3) (nT 2)), .slice [] []], (.tuple [bd2, .bool true])),
  (20, [.agg (oT [43] xT yT), bd2], (.agg (oT [43] (nT 2) yT)))]
def tabM : Tab := tabR.mem maL
theorem tabM_ok : tabM.OK Tryz.prog := tabR_ok.mem_ok ⟨y1, y2, y3, y4, y5, y6, y7, trivial⟩
/-- awake returns true. -/
theorem awake_ok : FnOK Tryz.prog 7 [] (.bool true) := fnE_ok hdraw tabM_ok 20000 (by kernel_rfl)
end Go.Proofs.YtobgkdlghljdlaaGreatDoor
