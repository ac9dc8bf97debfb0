/- What the layer wants of the program's variables: nothing. -/
import Derived.Deep.DeepHandedRow
import Derived.Deep.DeepWitnessRowRef
import Derived.ProofKit
import Derived.Test.YtiafmjolbacdaaaGreatWorld
import Derived.Test.YtiafmjolbacdaaaGreatBase
import Derived.Test.YtiafmjolbacdaaaGreatSx7
set_option linter.unusedSectionVars false
set_option linter.unusedVariables false
set_option linter.unusedSimpArgs false
set_option linter.deprecated false
set_option maxRecDepth 100000
namespace Go.Proofs.YtiafmjolbacdaaaGreat
open Go.Sx Go.ChangeShapes Go.WideShapes Go.RowKit
theorem laidOut : laidOutB Tryz.prog = true := by kernel_rfl
theorem own : ownKnob Tryz.prog.godebug = none := by kernel_rfl
theorem globC {W : World} : GlobC (memW W) W (fun _ => False) := ⟨(fun g cs h => by cases h),(fun g arr h => by cases h),(fun g h => absurd (show false = true from h) (by decide))⟩
end Go.Proofs.YtiafmjolbacdaaaGreat
