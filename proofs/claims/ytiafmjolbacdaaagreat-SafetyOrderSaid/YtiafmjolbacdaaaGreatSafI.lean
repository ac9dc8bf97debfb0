/- AppendSeq, Collect, Sorted over the keys of a set: trees. -/
import Derived.Test.YtiafmjolbacdaaaGreatSafH
set_option linter.unusedSectionVars false
set_option linter.unusedVariables false
set_option linter.unusedSimpArgs false
set_option linter.deprecated false
set_option maxRecDepth 100000
namespace Go.Proofs.YtiafmjolbacdaaaGreat
open Go.Sx Go.RowKit
def stAp (ks cs : List D) : St := ⟨[(6, .func (.func fY) [] [.ptr 0 0]), (4, .vec 6), (2, .ptr 4 0), (0, .nils), (1, .func (.func fY) [] [.ptr 0 0])], [(6, .arr true 1 9 []), (4, .cells [.nils]), (0, .cells [.map 1]), (1, .gen (.mapC ks cs) [])]⟩
def frAp : List Fr := [.blk 0, .sc (.seq (.reg [so 12 (.load false 1) [xt 2], so 4 .mv [xt 12]]) .ret)]
def recAp (ks cs : List D) : Ob := recd Tryz.prog .ready none 13 #[7] (sc74.rngA 0) (sc74.rngB 0) (stAp ks cs).tm
def bkAp (ks cs : List D) (ob' : Obs) : St := ⟨(stAp ks cs).tm, eraseId 7 (St.back ⟨(stAp ks cs).tm, (7, recAp ks cs) :: (stAp ks cs).ob⟩ 8 [0, 7, 1, 6, 4] ob').ob⟩
noncomputable def CApN (ks : List D) (cs : List D) : Tr := Tr.ret D.nils [(0, Ob.cells [D.map 1]), (1, Ob.gen (Gen.mapC ks cs) [])]
theorem CApN_eq (ks : List D) (cs : List D) : goT Tryz.prog (ctr libT) 2 (finF false 2 rs74) 2000 frAp (bkAp ks cs (obPN (Ob.gen (Gen.mapC ks cs) []))) = CApN ks cs := by kernel_rfl
noncomputable def CApA (ks : List D) (cs : List D) (o : List (List D)) : Tr := Tr.ret (D.vec 2) [(0, Ob.cells [D.map 1]), (1, Ob.gen (Gen.mapC ks cs) []), (2, Ob.arr false 1 9 o)]
theorem CApA_eq (ks : List D) (cs : List D) (o : List (List D)) : goT Tryz.prog (ctr libT) 2 (finF false 2 rs74) 2000 frAp (bkAp ks cs (obPA (Ob.gen (Gen.mapC ks cs) []) 5 o)) = CApA ks cs o := by kernel_rfl
def obC (ks cs : List D) : Obs := [(0, .cells [.map 1]), (1, .gen (.mapC ks cs) [])]
def obCA (ks cs : List D) (o : List (List D)) : Obs := [(0, .cells [.map 1]), (1, .gen (.mapC ks cs) []), (2, .arr false 1 9 o)]
noncomputable def CC0 (ks : List D) (cs : List D) : Tr := Tr.jmp (frg sc56 0) { tm := [(0, D.func (Fn.func 58) [] [D.ptr 0 0])], ob := [(0, Ob.cells [D.map 1]), (1, Ob.gen (Gen.mapC ks cs) [])] }
theorem CC0_eq (ks : List D) (cs : List D) : goT Tryz.prog (ctr libT) 2 (finF false 2 rs56) 2000 [Fr.sc sc56] { tm := envOf 0 ([] ++ [D.func (Fn.func fY) [] [D.ptr 0 0]] ++ []), ob := obC ks cs } = CC0 ks cs := by kernel_rfl
def stC (ks cs : List D) : St := ⟨[(3, .func (.func fY) [] [.ptr 0 0]), (0, .func (.func fY) [] [.ptr 0 0])], obC ks cs⟩
noncomputable def CCN (ks : List D) (cs : List D) : Tr := Tr.ret D.nils [(0, Ob.cells [D.map 1]), (1, Ob.gen (Gen.mapC ks cs) [])]
theorem CCN_eq (ks : List D) (cs : List D) : goT Tryz.prog (ctr libT) 2 (finF false 2 rs56) 2000 [Fr.sc SC.ret] (St.put (St.put (St.back (stC ks cs) 4098 [0, 1] (obC ks cs)) (some 4) D.nils) (some 2) D.nils) = CCN ks cs := by kernel_rfl
noncomputable def CCA (ks : List D) (cs : List D) (o : List (List D)) : Tr := Tr.ret (D.vec 2) [(0, Ob.cells [D.map 1]), (1, Ob.gen (Gen.mapC ks cs) []), (2, Ob.arr false 1 9 o)]
theorem CCA_eq (ks : List D) (cs : List D) (o : List (List D)) : goT Tryz.prog (ctr libT) 2 (finF false 2 rs56) 2000 [Fr.sc SC.ret] (St.put (St.put (St.back (stC ks cs) 4098 [0, 1] (obCA ks cs o)) (some 4) (D.vec 4100)) (some 2) (D.vec 4100)) = CCA ks cs o := by kernel_rfl
noncomputable def CS0 (ks : List D) (cs : List D) : Tr := Tr.jmp (frg sc38 0) { tm := [(0, D.func (Fn.func 58) [] [D.ptr 0 0])], ob := [(0, Ob.cells [D.map 1]), (1, Ob.gen (Gen.mapC ks cs) [])] }
theorem CS0_eq (ks : List D) (cs : List D) : goT Tryz.prog (ctr libT) 2 (finF false 2 rs38) 2000 [Fr.sc sc38] { tm := envOf 0 ([] ++ [D.func (Fn.func fY) [] [D.ptr 0 0]] ++ []), ob := obC ks cs } = CS0 ks cs := by kernel_rfl
def stS (ks cs : List D) : St := ⟨[(4, .func (.func fY) [] [.ptr 0 0]), (0, .func (.func fY) [] [.ptr 0 0])], obC ks cs⟩
def frS : List Fr := [.sc (.seq (.spec (.frg [3])) (.seq (.reg [so 6 .mv [xt 3], .cd (some 7) none (xc (.func (.func 57) [] [])) [xt 6]]) (.seq (.spec (.frg [3])) (.seq (.reg [so 8 .mv [xt 3], so 2 .mv [xt 8]]) .ret))))]
noncomputable def CSN (ks : List D) (cs : List D) : Tr := Tr.jmp (frg sc38 1) { tm := [(3, D.nils)], ob := [(0, Ob.cells [D.map 1]), (1, Ob.gen (Gen.mapC ks cs) [])] }
theorem CSN_eq (ks : List D) (cs : List D) : goT Tryz.prog (ctr libT) 2 (finF false 2 rs38) 2000 frS (St.put (St.put (St.back (stS ks cs) 4098 [0, 1] (obC ks cs)) (some 5) D.nils) (some 3) D.nils) = CSN ks cs := by kernel_rfl
noncomputable def CSA (ks : List D) (cs : List D) (o : List (List D)) : Tr := Tr.jmp (frg sc38 1) { tm := [(3, D.vec 2)], ob := [(0, Ob.cells [D.map 1]), (1, Ob.gen (Gen.mapC ks cs) []), (2, Ob.arr false 1 9 o)] }
theorem CSA_eq (ks : List D) (cs : List D) (o : List (List D)) : goT Tryz.prog (ctr libT) 2 (finF false 2 rs38) 2000 frS (St.put (St.put (St.back (stS ks cs) 4098 [0, 1] (obCA ks cs o)) (some 5) (D.vec 4100)) (some 3) (D.vec 4100)) = CSA ks cs o := by kernel_rfl
noncomputable def CSN1 (ks : List D) (cs : List D) : Tr := Tr.owe (CallL Tryz.prog (D.func (Fn.func 57) [] []) [D.slice [] []] [] fun r0 ob0 => r0 = D.tuple [] ∧ ob0 = []) (Tr.jmp (frg sc38 2) { tm := [(3, D.nils)], ob := [(0, Ob.cells [D.map 1]), (1, Ob.gen (Gen.mapC ks cs) [])] })
theorem CSN1_eq (ks : List D) (cs : List D) : goT Tryz.prog (ctr libT (asmO (D.tuple []) [])) 2 (finF false 2 rs38) 2000 (frg sc38 1) { tm := [(3, D.nils)], ob := obC ks cs } = CSN1 ks cs := by kernel_rfl
noncomputable def CSA1 (ks : List D) (cs : List D) (o : List (List D)) (o2 : List (List D)) : Tr := Tr.owe (CallL Tryz.prog (D.func (Fn.func 57) [] []) [D.vec 0] [(0, Ob.arr false 1 9 o)] fun r0 ob0 => r0 = D.tuple [] ∧ ob0 = [(0, Ob.arr false 1 9 o2)]) (Tr.jmp (frg sc38 2) { tm := [(3, D.vec 2)], ob := [(0, Ob.cells [D.map 1]), (1, Ob.gen (Gen.mapC ks cs) []), (2, Ob.arr false 1 9 o2)] })
theorem CSA1_eq (ks : List D) (cs : List D) (o : List (List D)) (o2 : List (List D)) : goT Tryz.prog (ctr libT (asmO (D.tuple []) [(0, Ob.arr false 1 9 o2)])) 2 (finF false 2 rs38) 2000 (frg sc38 1) { tm := [(3, D.vec 2)], ob := obCA ks cs o } = CSA1 ks cs o o2 := by kernel_rfl
noncomputable def CSN2 (ks : List D) (cs : List D) : Tr := Tr.ret D.nils [(0, Ob.cells [D.map 1]), (1, Ob.gen (Gen.mapC ks cs) [])]
theorem CSN2_eq (ks : List D) (cs : List D) : goT Tryz.prog (ctr libT) 2 (finF false 2 rs38) 2000 (frg sc38 2) { tm := [(3, D.nils)], ob := obC ks cs } = CSN2 ks cs := by kernel_rfl
noncomputable def CSA2 (ks : List D) (cs : List D) (o : List (List D)) : Tr := Tr.ret (D.vec 2) [(0, Ob.cells [D.map 1]), (1, Ob.gen (Gen.mapC ks cs) []), (2, Ob.arr false 1 9 o)]
theorem CSA2_eq (ks : List D) (cs : List D) (o : List (List D)) : goT Tryz.prog (ctr libT) 2 (finF false 2 rs38) 2000 (frg sc38 2) { tm := [(3, D.vec 2)], ob := obCA ks cs o } = CSA2 ks cs o := by kernel_rfl
end Go.Proofs.YtiafmjolbacdaaaGreat
