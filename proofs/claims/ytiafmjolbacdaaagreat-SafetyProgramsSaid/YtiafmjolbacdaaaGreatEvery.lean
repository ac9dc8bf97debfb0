/- subterms,visit: what Vars wants of them. -/
import Derived.Test.YtiafmjolbacdaaaGreatLibT
import Derived.Test.YtiafmjolbacdaaaGreatSx8
set_option linter.unusedSectionVars false
set_option linter.unusedVariables false
set_option linter.unusedSimpArgs false
set_option linter.deprecated false
set_option maxRecDepth 100000
namespace Go.Proofs.YtiafmjolbacdaaaGreat
open Go.Sx
noncomputable def CSub (k n : Int) (s : List UInt8) (a : List (List D)) : Tr := Tr.ret (D.func (Fn.func 111) [] [D.ptr 0 0]) [(0,Ob.cells [D.int .u8 k,D.int .i64 n,D.str s,D.slice a []])]
theorem CSub_eq (k n : Int) (s : List UInt8) (a : List (List D)) : goT Tryz.prog (ctr libT) 0 (finF false 0 rs77) 2000 [Fr.sc sc77] { tm := envOf 0 ([] ++ [D.agg [D.int .u8 k,D.int .i64 n,D.str s,D.slice a []]] ++ []),ob := [] } = CSub k n s a := by kernel_rfl
def subQ : QT := fun d xs ob => match d,xs,ob with
 | .func (.func f) [] [],[.agg [.int .u8 k,.int .i64 n,.str s,.slice a []]],[] => if f = 77 then some (.ok True (.func (.func 111) [] [.ptr 0 0]) [(0,.cells [.int .u8 k,.int .i64 n,.str s,.slice a []])]) else none
 | _,_,_ => none
theorem subQ_ok : subQ.OK := by
 intro d xs ob rt h
 unfold subQ at h
 split at h
 ·split at h
  ·rename_i hf
   subst hf
   cases h
   intro _
   exact CallL.tree hdraw fp77 (ctr_ok libT_ok qnone_ok) (CSub_eq _ _ _ _) ⟨rfl,rfl⟩
  ·cases h
 ·cases h
abbrev tC (k n : Int) (s : List UInt8) (a : List (List D)) : List D := [.int .u8 k,.int .i64 n,.str s,.slice a []]
def hdVi (ax : List (List D)) (m i : Int) (ob : Obs) : St := ⟨[(1,.yld 0),(12,.slice ax []),(13,.int .i64 m),(14,.int .i64 i)],ob⟩
def asmA (r : D) (g : Obs -> Obs) : QT := fun d xs ob => some (.ok (CallL Tryz.prog d xs ob fun r0 ob0 => r0 = r /\ ob0 = g ob) r (g ob))
theorem asmA_ok (r : D) (g : Obs -> Obs) : (asmA r g).OK := by intro d xs ob rt h; cases h; exact fun hp => hp
end Go.Proofs.YtiafmjolbacdaaaGreat
