/- The table of the short texts,for closed runs. -/
import Derived.Test.YtiafmjolbacdaaaGreatTable
set_option linter.unusedSectionVars false
set_option linter.unusedVariables false
set_option linter.unusedSimpArgs false
set_option linter.deprecated false
set_option maxRecDepth 100000
namespace Go.Proofs.YtiafmjolbacdaaaGreat
open Go.Sx
def tab : Tab := ⟨fun f => lk tabL f,fun _ _ _ => none,fun _ _ => none⟩
theorem lk_in {α : Type} : ∀ {l : List (Nat × α)} {i : Nat} {x : α},lk l i = some x -> (i,x) ∈ l
 | [],_,_,h => by simp [lk] at h
 | (j,y) :: r,i,x,h => by
  simp only [lk] at h
  split at h
  ·rename_i e; cases h; subst e; simp
  ·exact List.mem_cons_of_mem _ (lk_in h)
theorem tab_ok : tab.OK Tryz.prog := ⟨fun f N sc rs h => tabL_ok _ (lk_in h),(fun _ _ _ _ _ h => by cases h),(fun _ _ _ h => by cases h)⟩
end Go.Proofs.YtiafmjolbacdaaaGreat
