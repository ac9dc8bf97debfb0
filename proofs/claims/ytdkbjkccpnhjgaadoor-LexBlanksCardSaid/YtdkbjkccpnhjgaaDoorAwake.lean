/- awake, run: true. -/
import Derived.Test.YtdkbjkccpnhjgaaDoorAll
set_option linter.unusedSectionVars false
set_option linter.unusedVariables false
set_option linter.unusedSimpArgs false
set_option linter.deprecated false
namespace Go.Proofs.YtdkbjkccpnhjgaaDoor
open Go.Sx
/-- The library's functions, and Lex. -/
def awF (f : FuncId) (xs : List D) : Option D :=
  if f = 11 then match xs with
    | [.str s] => some (.tuple [.slice ((Lx.lexR s).1.map Lx.tokC) [], .int .i64 (Lx.lexR s).2.1, .int .i64 (Lx.lexR s).2.2])
    | _ => none
  else libF f xs
def awTab : Tab := ⟨fun f => lk tabL f, fun _ _ _ => none, awF⟩
set_option maxRecDepth 100000
theorem awake_run : fnE awTab (go Tryd.prog awTab 20000) 7 [] = some (.bool true) := by kernel_rfl
theorem awF_ok : ∀ f xs r, awF f xs = some r → FnOK Tryd.prog f xs r := by
  intro f xs r h
  unfold awF at h
  split at h
  · rename_i hf
    subst hf
    split at h
    · cases h; exact lex_ok _
    · cases h
  · exact libF_ok _ _ _ h
theorem awTab_ok : awTab.OK Tryd.prog := ⟨tab_ok.T, (fun _ _ _ _ _ h => by cases h), awF_ok⟩
/-- awake returns true. -/
theorem awake_ok : FnOK Tryd.prog 7 [] (.bool true) := fnE_ok hdraw awTab_ok _ awake_run
end Go.Proofs.YtdkbjkccpnhjgaaDoor
