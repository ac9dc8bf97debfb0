/- What is known of the library's functions that the program calls,as a table of results. -/
import Derived.Test.YtaclfbhhekhflaaGreatDoorTable
import Derived.Test.YtaclfbhhekhflaaGreatDoorShelf
set_option linter.all false
set_option maxRecDepth 100000
noncomputable section
namespace Go.Proofs.YtaclfbhhekhflaaGreatDoor
open Go.Sx
def libF (f:FuncId) (xs:List D):Option D :=
 if f=115 then match xs with
  |[.str s,.str t]=>if s.length<4294967281 then some (.bool (Lib.contains s t)) else none
  |_=>none
 else if f=89 then match xs with
  |[.str s,.str t]=>some (.int .i64 (Lib.compareBytes s t))
  |_=>none
 else none
theorem Z7Z: ∀ f xs r,libF f xs=some r->FnOK Tryz.prog f xs r:=by
 intro f xs r h;unfold libF at h;split at h
 ·rename_i hf;subst hf;split at h
  ·split at h
   ·rename_i a;cases h;exact FnOK.contains (g:=0) (by decide) (λs t m w hs hm=>Tryz.strings_Contains s t m w hs hm) _ _ a
   ·cases h
  ·cases h
 split at h
 ·rename_i hf;subst hf;split at h
  ·cases h;exact FnOK.strcmp Tryz.strings_Compare _ _
  ·cases h
 ·cases h
def tab:Tab:=⟨λf=>lk tabL f,λ_ _ _=>none,libF⟩
theorem Zqg {α:Type}: ∀ {l:List (Nat × α)} {i:Nat} {x:α},lk l i=some x->(i,x)∈l
 |[],_,_,h=>by simp[lk] at h
 |(j,y)::r,i,x,h=>by
  simp only[lk] at h;split at h
  ·rename_i e;cases h;subst e;simp
  ·exact List.mem_cons_of_mem _ (Zqg h)
theorem Z2X:tab.OK Tryz.prog:=⟨λf N sc rs h=>ZiN _ (Zqg h),(λ_ _ _ _ _ h=>by cases h),Z7Z⟩
end Go.Proofs.YtaclfbhhekhflaaGreatDoor
