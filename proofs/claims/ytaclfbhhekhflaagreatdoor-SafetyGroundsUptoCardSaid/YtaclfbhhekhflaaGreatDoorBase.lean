/- The ground of the proofs over this seat's program. -/
import Derived.Test.YtaclfbhhekhflaaGreatDoorChecked
import Derived.KernelRfl
import Derived.Lib.Bytealg
import Derived.Lib.IndexMore
import Derived.Test.YtaclfbhhekhflaaGreatDoorSx7
set_option linter.all false
set_option maxRecDepth 100000
noncomputable section
namespace Go.Sx
abbrev so (d:Nat) (a:AOp) (xs:List X):SOp:=.a (some d) none a xs
abbrev xt (n:Nat):X:=.t n
abbrev xc (d:D):X:=.c d
end Go.Sx
namespace Go.Proofs.YtaclfbhhekhflaaGreatDoor
open Go.Sx
instance globs:Globs where
 G:=λ_=>none
 X:=λ_=>none
 I:=λg=>g=0
 N:=λf=>decide (f=105)
instance codes:Codes:=⟨Ziq Tryz.prog⟩
instance codesOf:CodesOf Tryz.prog:=⟨λ_ _ _=>Iff.rfl⟩
end Go.Proofs.YtaclfbhhekhflaaGreatDoor
