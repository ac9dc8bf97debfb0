/- What the layer wants of the program's variables. -/
import Derived.Test.YtaclfbhhekhflaaGreatDoorWorld
import Derived.Test.YtaclfbhhekhflaaGreatDoorBase
import Derived.Test.YtaclfbhhekhflaaGreatDoorShelf
import Derived.Test.YtaclfbhhekhflaaGreatDoorSx7
set_option linter.all false
set_option maxRecDepth 100000
noncomputable section
namespace Go.Proofs.YtaclfbhhekhflaaGreatDoor
open Go.Sx Go.ChangeShapes Go.WideShapes Go.RowKit
theorem ZkV:laidOutB Tryz.prog=true:=by kernel_rfl
theorem own:ownKnob Tryz.prog.godebug=none:=by kernel_rfl
theorem Zuj {W:World} (c:W.ShapedOpen Tryz.prog):GlobC (memW W) W (λ_=>False):=by
 refine⟨(λg cs h=>by cases h),(λg arr b=>by cases b),?_⟩;intro g b;have d:g=0:=of_decide_eq_true b;subst d;refine⟨?_,λh=>h⟩;obtain⟨m,hm⟩:=Tryz.laysM144.s1_3 W c;have a:W.cell? ⟨0,0,none⟩=some (.int .i64 m):=hm;unfold World.cell? at a;simp only[Option.isSome_none,Bool.false_eq_true,if_false] at a;split at a
 ·rename_i cs ty fr hh;exact⟨cs,ty,fr,m,hh,by simpa using a⟩
 ·cases a
end Go.Proofs.YtaclfbhhekhflaaGreatDoor
