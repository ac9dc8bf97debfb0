/- The ground of the proofs over this seat's program. -/
import Derived.Test.YtecgehidegnmnaaGreatDoorChecked
import Derived.KernelRfl
import Derived.Lib.Atoi
import Derived.Lib.Join
import Derived.Lib.Fields
import Derived.Lib.Bytealg
import Derived.Lib.ItoaNum
import Derived.Lib.Space
import Derived.Lib.IndexMore
import Derived.Test.YtecgehidegnmnaaGreatDoorSx7
set_option linter.all false
set_option maxRecDepth 100000
namespace Go.Sx
abbrev so (d:Nat) (a:AOp) (xs:List X):SOp:=.a (some d) none a xs
abbrev xt (n:Nat):X:=.t n
abbrev xc (d:D):X:=.c d
end Go.Sx
namespace Go.Proofs.YtecgehidegnmnaaGreatDoor
open Go.Sx
instance globs:Globs where
 G:=λg=>if g=1 then some (Lib.asciiSpaceTab.map λz=>.int .u8 z) else if g=5 then some [.ifc] else if g=6 then some [.ifc] else none
 X:=λg=>if g=4 then some (Lib.pow10Tab.map λz=>Value.int .u64 z).toArray else none
 I:=λg=>g=0
instance codes:Codes:=⟨ZdE Tryz.prog⟩
instance codesOf:CodesOf Tryz.prog:=⟨λ_ _ _=>Iff.rfl⟩
end Go.Proofs.YtecgehidegnmnaaGreatDoor
