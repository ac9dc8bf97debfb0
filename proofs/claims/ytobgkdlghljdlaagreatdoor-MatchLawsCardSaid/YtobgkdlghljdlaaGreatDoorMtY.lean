/- What awake matches: the table. -/
import Derived.Test.YtobgkdlghljdlaaGreatDoorMtV
import Derived.Test.YtobgkdlghljdlaaGreatDoorSx8
set_option linter.unusedSectionVars false
set_option linter.unusedVariables false
set_option linter.unusedSimpArgs false
set_option linter.deprecated false
set_option maxRecDepth 100000
namespace Go.Proofs.YtobgkdlghljdlaaGreatDoor
open Go.Sx
abbrev noB : D := .tuple [.slice [] [], .bool false]
abbrev pX (s : List UInt8) (v : List D) : List D := .str s :: v
abbrev bd2 : D := .slice [pX [88] (nT 2)] []
noncomputable def tabZ : Tab := Tab.frz tabA Tryz.prog [51] 20000
theorem tabZ_ok : tabZ.OK Tryz.prog := Tab.frz_ok hdraw tabA_ok (by kernel_rfl) 20000
end Go.Proofs.YtobgkdlghljdlaaGreatDoor
