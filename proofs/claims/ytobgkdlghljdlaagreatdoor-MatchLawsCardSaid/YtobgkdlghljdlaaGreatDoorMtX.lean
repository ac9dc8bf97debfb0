/- What awake reads: the table. -/
import Derived.Test.YtobgkdlghljdlaaGreatDoorMtWa
import Derived.Test.YtobgkdlghljdlaaGreatDoorMtWb
import Derived.Test.YtobgkdlghljdlaaGreatDoorMtWc
set_option linter.unusedSectionVars false
set_option linter.unusedVariables false
set_option linter.unusedSimpArgs false
set_option linter.deprecated false
namespace Go.Proofs.YtobgkdlghljdlaaGreatDoor
open Go.Sx
set_option maxRecDepth 100000
def rdL : List (FuncId × List D × D) := [(31, [.str [50]], .agg (nT 2)),
  (31, [.str [49]], .agg (nT 1)),
  (31, [.str [97]], .agg (aT)),
  (31, [.str [51]], .agg (nT 3)),
  (31, [.str [102, 40, 88, 44, 88, 41]], .agg (fT xT xT)),
  (31, [.str [102, 40, 49, 44, 50, 41]], .agg (fT (nT 1) (nT 2))),
  (31, [.str [88, 43, 49]], .agg (oT [43] xT (nT 1))),
  (31, [.str [102, 40, 88, 44, 103, 40, 89, 41, 41]], .agg (fT xT (gT yT))),
  (31, [.str [102, 40, 49, 44, 103, 40, 97, 41, 41]], .agg (fT (nT 1) (gT aT))),
  (31, [.str [49, 46, 46, 51]], .agg (rT (nT 1) (nT 3))),
  (31, [.str [102, 40, 88, 43, 49, 44, 88, 41]], .agg (fT (oT [43] xT (nT 1)) xT)),
  (31, [.str [102, 40, 51, 44, 50, 41]], .agg (fT (nT 3) (nT 2))),
  (31, [.str [88, 43, 89]], .agg (oT [43] xT yT)),
  (31, [.str [50, 43, 89]], .agg (oT [43] (nT 2) yT))]
def tabR : Tab := tabA.mem rdL
theorem tabR_ok : tabR.OK Tryz.prog := tabA_ok.mem_ok ⟨r2, r1, ra, r3, rfxx, rf12, rx1, rfxg, rf1g, r13, rfx1, rf32, rxy, r2y, trivial⟩
end Go.Proofs.YtobgkdlghljdlaaGreatDoor
