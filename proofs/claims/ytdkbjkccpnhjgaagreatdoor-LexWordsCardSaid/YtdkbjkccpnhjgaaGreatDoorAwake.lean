/- awake, run: true. -/
import Derived.Test.YtdkbjkccpnhjgaaGreatDoorAll
set_option linter.unusedSectionVars false
set_option linter.unusedVariables false
set_option linter.unusedSimpArgs false
set_option linter.deprecated false
namespace Go.Proofs.YtdkbjkccpnhjgaaGreatDoor
open Go.Sx
/-- The library's functions, and Lex. -/
def awF (f : FuncId) (xs : List D) : Option D :=
  if f = 9 then match xs with
    | [.str s] => some (.tuple [.slice ((Lx.lexR s).1.map Lx.tokC) [], .int .i64 (Lx.lexR s).2.1, .int .i64 (Lx.lexR s).2.2])
    | _ => none
  else libF f xs
def awTab : Tab := ⟨fun f => lk tabL f, fun _ _ _ => none, awF⟩
set_option maxRecDepth 100000
theorem awake_run : fnE awTab (go Tryz.prog awTab 20000) 6 [] = some (.bool true) := by kernel_rfl
theorem awF_ok : ∀ f xs r, awF f xs = some r → FnOK Tryz.prog f xs r := by
  intro f xs r h
  unfold awF at h
  split at h
  · rename_i hf
    subst hf
    split at h
    · cases h; exact lex_ok _
    · cases h
  · exact libF_ok _ _ _ h
theorem awTab_ok : awTab.OK Tryz.prog := ⟨tab_ok.T, (fun _ _ _ _ _ h => by cases h), awF_ok⟩
/-- awake returns true. -/
theorem awake_ok : FnOK Tryz.prog 6 [] (.bool true) := fnE_ok hdraw awTab_ok _ awake_run
end Go.Proofs.YtdkbjkccpnhjgaaGreatDoor
