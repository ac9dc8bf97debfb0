/- The ground of the proofs over this seat's program. -/
import Derived.Test.YtecgehidegnmnaaGreatDoorChecked
import Derived.KernelRfl
import Derived.Lib.Atoi
import Derived.Lib.Join
import Derived.Lib.Fields
import Derived.Lib.Bytealg
import Derived.Lib.ItoaNum
import Derived.Lib.Space
import Derived.Lib.IndexMore
import Derived.Test.YtecgehidegnmnaaGreatDoorSx7
set_option linter.unusedSectionVars false
set_option linter.unusedVariables false
set_option linter.unusedSimpArgs false
set_option linter.deprecated false
set_option maxRecDepth 100000
namespace Go.Sx
abbrev so (d:Nat) (a:AOp) (xs:List X):SOp:= .a (some d) none a xs
abbrev xt (n:Nat):X:= .t n
abbrev xc (d:D):X:= .c d
end Go.Sx
namespace Go.Proofs.YtecgehidegnmnaaGreatDoor
open Go.Sx
instance globs:Globs where
 G:=fun g=>if g=1 then some (Lib.asciiSpaceTab.map fun z=> .int .u8 z) else if g=5 then some [.ifc] else if g=6 then some [.ifc] else none
 X:=fun g=>if g=4 then some (Lib.pow10Tab.map fun z=>Value.int .u64 z).toArray else none
 I:=fun g=>g=0
instance codes:Codes:=⟨Zeb Tryz.prog⟩
instance codesOf:CodesOf Tryz.prog:=⟨fun _ _ _=>Iff.rfl⟩
end Go.Proofs.YtecgehidegnmnaaGreatDoor
