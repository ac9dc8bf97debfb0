/- The ground of the proofs over this seat's program. -/
import Derived.Test.YtobgkdlghljdlaaGreatDoorChecked
import Derived.KernelRfl
import Derived.Lib.Bytealg
import Derived.Lib.IndexMore
import Derived.Test.YtobgkdlghljdlaaGreatDoorSx7
set_option linter.unusedSectionVars false
set_option linter.unusedVariables false
set_option linter.unusedSimpArgs false
set_option linter.deprecated false
set_option maxRecDepth 100000
namespace Go.Sx
abbrev so (d:Nat) (a:AOp) (xs:List X):SOp:= .a (some d) none a xs
abbrev xt (n:Nat):X:= .t n
abbrev xc (d:D):X:= .c d
end Go.Sx
namespace Go.Proofs.YtobgkdlghljdlaaGreatDoor
open Go.Sx
instance globs:Globs where
 G:=fun _=>none
 X:=fun _=>none
 I:=fun g=>g=0
instance codes:Codes:=⟨Zdt Tryz.prog⟩
instance codesOf:CodesOf Tryz.prog:=⟨fun _ _ _=>Iff.rfl⟩
end Go.Proofs.YtobgkdlghljdlaaGreatDoor
