/- The ground of the proofs over this seat's program. -/
import Derived.Test.YtdkbjkccpnhjgaaDoorSxLib
import Derived.Test.YtdkbjkccpnhjgaaDoorChecked
import Derived.KernelRfl
import Derived.Lib.Atoi
import Derived.Lib.Join
import Derived.Lib.Fields
import Derived.Lib.Bytealg
import Derived.Lib.ItoaNum
import Derived.Lib.Space
set_option linter.unusedSectionVars false
set_option linter.unusedVariables false
set_option linter.unusedSimpArgs false
set_option linter.deprecated false
namespace Go.Sx
abbrev so (d : Nat) (a : AOp) (xs : List X) : SOp := .a (some d) none a xs
abbrev xt (n : Nat) : X := .t n
abbrev xc (d : D) : X := .c d
end Go.Sx
namespace Go.Proofs.YtdkbjkccpnhjgaaDoor
open Go.Sx
/-- What is used of the program's variables: the table of blanks, and that ErrSyntax is no nil. -/
instance globs : Globs := ⟨fun g => if g = 1 then some (Lib.asciiSpaceTab.map fun z => .int .u8 z) else if g = 2 then some [.ifc] else none⟩
instance codes : Codes := ⟨CodeIs Tryd.prog⟩
instance codesOf : CodesOf Tryd.prog := ⟨fun _ _ _ => Iff.rfl⟩
end Go.Proofs.YtdkbjkccpnhjgaaDoor
