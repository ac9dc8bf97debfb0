/- What is known of the library's functions that the program calls,as a table of results. -/
import Derived.Test.YtobgkdlghljdlaaGreatDoorTable
import Derived.Test.YtobgkdlghljdlaaGreatDoorShelf
set_option linter.unusedSectionVars false
set_option linter.unusedVariables false
set_option linter.unusedSimpArgs false
set_option linter.deprecated false
set_option maxRecDepth 100000
namespace Go.Proofs.YtobgkdlghljdlaaGreatDoor
open Go.Sx
def libF (f:FuncId) (xs:List D):Option D :=
 if f=73 then match xs with
  | [.str s,.str t]=>if s.length<4294967281 then some (.bool (Lib.contains s t)) else none
  | _=>none
 else if f=96 then match xs with
  | [.str s,.str t]=>some (.int .i64 (Lib.compareBytes s t))
  | _=>none
 else none
theorem Z5j: ∀ f xs r,libF f xs=some r->FnOK Tryz.prog f xs r:=by
 intro f xs r h
 unfold libF at h
 split at h
 ·rename_i hf; subst hf
  split at h
  ·split at h
   ·rename_i hb
    cases h
    exact FnOK.contains (g:=0) (by decide) (fun s t m w hs hm=>Tryz.strings_Contains s t m w hs hm) _ _ hb
   ·cases h
  ·cases h
 split at h
 ·rename_i hf; subst hf
  split at h
  ·cases h
   exact FnOK.strcmp Tryz.strings_Compare _ _
  ·cases h
 ·cases h
def tab:Tab:=⟨fun f=>lk tabL f,fun _ _ _=>none,libF⟩
theorem Zkh {α:Type}: ∀ {l:List (Nat × α)} {i:Nat} {x:α},lk l i=some x->(i,x)∈l
 | [],_,_,h=>by simp[lk] at h
 | (j,y)::r,i,x,h=>by
  simp only[lk] at h
  split at h
  ·rename_i e; cases h; subst e; simp
  ·exact List.mem_cons_of_mem _ (Zkh h)
theorem Qe:tab.OK Tryz.prog:=⟨fun f N sc rs h=>ZdP _ (Zkh h),(fun _ _ _ _ _ h=>by cases h),Z5j⟩
end Go.Proofs.YtobgkdlghljdlaaGreatDoor
