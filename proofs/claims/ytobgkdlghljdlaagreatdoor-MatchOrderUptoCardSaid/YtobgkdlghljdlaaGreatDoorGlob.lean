/- What the layer wants of the program's variables. -/
import Derived.Test.YtobgkdlghljdlaaGreatDoorWorld
import Derived.Test.YtobgkdlghljdlaaGreatDoorBase
import Derived.Test.YtobgkdlghljdlaaGreatDoorShelf
import Derived.Test.YtobgkdlghljdlaaGreatDoorSx7
set_option linter.unusedSectionVars false
set_option linter.unusedVariables false
set_option linter.unusedSimpArgs false
set_option linter.deprecated false
set_option maxRecDepth 100000
namespace Go.Proofs.YtobgkdlghljdlaaGreatDoor
open Go.Sx Go.ChangeShapes Go.WideShapes Go.RowKit
theorem ZfH:laidOutB Tryz.prog=true:=by kernel_rfl
theorem own:ownKnob Tryz.prog.godebug=none:=by kernel_rfl
theorem ZnQ {W:World} (hS:W.ShapedOpen Tryz.prog):GlobC (memW W) W (fun _=>False):=by
 refine⟨(fun g cs h=>by cases h),(fun g arr hg0=>by cases hg0), ?_⟩
 intro g hg0
 have hg:g=0:=of_decide_eq_true hg0
 subst hg
 refine⟨?_,fun h=>h⟩
 obtain⟨m,hm⟩:=Tryz.laysM144.s1_3 W hS
 have hm':W.cell? ⟨0,0,none⟩=some (.int .i64 m):=hm
 unfold World.cell? at hm'
 simp only[Option.isSome_none,Bool.false_eq_true,if_false] at hm'
 split at hm'
 ·rename_i cs ty fr hh
  exact⟨cs,ty,fr,m,hh,by simpa using hm'⟩
 ·cases hm'
end Go.Proofs.YtobgkdlghljdlaaGreatDoor
