/- What the layer wants of the program's variables, out of what a row lists. -/
import Derived.Test.YtbcgpkgdbepfbaaGreatDoorWorld
import Derived.Test.YtbcgpkgdbepfbaaGreatDoorBase
import Derived.Test.YtbcgpkgdbepfbaaGreatDoorShelf
import Derived.Test.YtbcgpkgdbepfbaaGreatDoorSx6
set_option linter.unusedSectionVars false
set_option linter.unusedVariables false
set_option linter.unusedSimpArgs false
set_option linter.deprecated false
set_option maxRecDepth 100000
namespace Go.Proofs.YtbcgpkgdbepfbaaGreatDoor
open Go.Sx Go.ChangeShapes Go.WideShapes Go.RowKit
theorem laidOut : laidOutB Tryz.prog = true := by kernel_rfl
theorem own : ownKnob Tryz.prog.godebug = none := by kernel_rfl
theorem pow_eq : Rows.laid_internal_strconv_uint64pow10 (H := Unit) = Lib.tabData .u64 Lib.pow10Tab := by kernel_rfl
/-- The name of the table of the powers of ten. -/
def powName : String := (Rows.termNamesRow.laid.map (·.1)).getD 2 default
theorem gP : Tryz.prog.globalNamed powName = some 3 := by kernel_rfl
theorem gPt : (Tryz.prog.globals[3]?).map (·.type) = some 139 := by kernel_rfl
theorem cP : Tryz.prog.cellsOf 139 = 20 := by kernel_rfl
theorem cU : Tryz.prog.cellsOf 98 = 1 := by kernel_rfl

/-- What the layer wants of the program's variables. -/
theorem globC {W : World} {l : List (String × DataW Unit)} (hP : (powName, Rows.laid_internal_strconv_uint64pow10) ∈ l) (hS : W.ShapedOpen Tryz.prog) (hL : laidMet Tryz.prog l W) : GlobC (memW W) W (fun _ => False) := by
  refine ⟨(fun g cs h => by cases h), ?_, ?_⟩
  · intro g arr hg0
    have hg : (if g = 3 then some (Lib.pow10Tab.map fun z => Value.int .u64 z).toArray else none) = some arr := hg0
    clear hg0
    split at hg
    · rename_i h1
      cases hg
      subst h1
      refine ⟨?_, fun h => h⟩
      obtain ⟨g', t', cs, fuel, p, hg', ht', hvar, hd⟩ := Lib.laidMet.reads hL hP
      obtain rfl := Option.some.inj (gP.symm.trans hg')
      obtain rfl := Option.some.inj (gPt.symm.trans ht')
      rw [pow_eq] at hd
      have hcs := Lib.cells_of_tab Tryz.underlying139 Tryz.underlying98 cU cP hd
      unfold World.var? at hvar
      rw [gP] at hvar
      simp only [Option.bind_some] at hvar
      split at hvar
      · rename_i cs' ty fr hh
        cases hvar
        exact ⟨ty, fr, by rw [hh, ← hcs]⟩
      · cases hvar
    · cases hg
  · intro g hg0
    have hg : g = 0 := of_decide_eq_true hg0
    subst hg
    refine ⟨?_, fun h => h⟩
    obtain ⟨m, hm⟩ := Tryz.laysM144.s1_3 W hS
    have hm' : W.cell? ⟨0, 0, none⟩ = some (.int .i64 m) := hm
    unfold World.cell? at hm'
    simp only [Option.isSome_none, Bool.false_eq_true, if_false] at hm'
    split at hm'
    · rename_i cs ty fr hh
      exact ⟨cs, ty, fr, m, hh, by simpa using hm'⟩
    · cases hm'
end Go.Proofs.YtbcgpkgdbepfbaaGreatDoor
