/- Terms that awake reads. -/
import Derived.Test.YtobgkdlghljdlaaGreatDoorArAw
set_option linter.unusedSectionVars false
set_option linter.unusedVariables false
set_option linter.unusedSimpArgs false
set_option linter.deprecated false
set_option maxRecDepth 100000
namespace Go.Proofs.YtobgkdlghljdlaaGreatDoor
open Go.Sx
abbrev vT (s : List UInt8) : List D := [.int .u8 3, .int .i64 0, .str s, .slice [] []]
abbrev xT : List D := vT [88]
abbrev yT : List D := vT [89]
abbrev gT (a : List D) : List D := [.int .u8 4, .int .i64 0, .str [103], .slice [a] []]
end Go.Proofs.YtobgkdlghljdlaaGreatDoor
