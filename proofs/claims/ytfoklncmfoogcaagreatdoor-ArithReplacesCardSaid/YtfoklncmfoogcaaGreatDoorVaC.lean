/- Value,Ground. -/
import Derived.Test.YtfoklncmfoogcaaGreatDoorValid
import Derived.Test.YtfoklncmfoogcaaGreatDoorSx8
set_option linter.unusedSectionVars false
set_option linter.unusedVariables false
set_option linter.unusedSimpArgs false
set_option linter.deprecated false
set_option maxRecDepth 100000
namespace Go.Proofs.YtfoklncmfoogcaaGreatDoor
open Go.Sx
noncomputable def CGr1 (k n : Int) (s : List UInt8) (a : List (List D)) : Tr := Tr.ret (D.bool !decide (k = (3 : Int))) []
theorem CGr1_eq (k n : Int) (s : List UInt8) (a : List (List D)) : goT Tryz.prog (dCtr []) 0 (finF false 0 rs46) 2000 [Fr.sc sc46] { tm := envOf 0 ([] ++ [D.agg (tC k n s a)] ++ []),ob := [] } = CGr1 k n s a := by kernel_rfl
noncomputable def PGr (k n : Int) (s : List UInt8) (a : List (List D)) (b : Bool) : Tr := Tr.owe (CallL Tryz.prog (D.func (Fn.func 43) [] []) [D.agg [D.int .u8 k,D.int .i64 n,D.str s,D.slice a []],D.func (Fn.func 46) [] []] [] fun r0 o => r0 = D.bool b /\ o = []) (Tr.ret (D.bool b) [])
theorem PGr_eq (k n : Int) (s : List UInt8) (a : List (List D)) (b : Bool) : goT Tryz.prog (dCtr [] [] (asmK (D.bool b))) 0 (finF true 0 rs21) 2000 [Fr.sc sc21] { tm := envOf 0 [D.agg (tC k n s a)],ob := [] } = PGr k n s a b := by kernel_rfl
theorem ground1_ok (x : Tm) (hx : x.wf 281474976710656) : CallL Tryz.prog (.func (.func 46) [] []) [.agg x.cells] [] fun r ob => r = .bool x.gr /\ ob = [] := by
 obtain ⟨k,n,s,l⟩ := x
 refine CallL.tree hdraw fp46 (dCtr_ok qnone_ok) (CGr1_eq k n s (Tm.cellsL l)) ?_
 unfold CGr1
 have e1 : decide ((k : Int) = 3) = decide (k = 3) := by rw [Bool.eq_iff_iff]; simp; omega
 rw [ok_ret,e1]
 exact ⟨rfl,rfl⟩
theorem ground_ok (x : Tm) (hx : x.wf 281474976710656) : FnOK Tryz.prog 21 [.agg x.cells] (.bool (x.all Tm.gr)) := by
 have h2 := every_ok (h := Tm.gr) ground1_ok x hx
 generalize x.all Tm.gr = b at h2 ⊢
 obtain ⟨k,n,s,l⟩ := x
 refine FnOK.tree hdraw fp21 (dCtr_ok (asmK_ok (.bool b))) (PGr_eq k n s (Tm.cellsL l) b) ?_
 unfold PGr
 rw [ok_owe,ok_ret]
 exact ⟨h2,rfl⟩
end Go.Proofs.YtfoklncmfoogcaaGreatDoor
