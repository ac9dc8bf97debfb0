/- Value,Ground. -/
import Derived.Test.YtfoklncmfoogcaaGreatDoorValid
import Derived.Test.YtfoklncmfoogcaaGreatDoorSx8
set_option linter.unusedSectionVars false
set_option linter.unusedVariables false
set_option linter.unusedSimpArgs false
set_option linter.deprecated false
set_option maxRecDepth 100000
namespace Go.Proofs.YtfoklncmfoogcaaGreatDoor
open Go.Sx
noncomputable def CVal1 (k n:Int) (s:List UInt8) (a:List (List D)):Tr:=brT (decide (k=(1:Int))) (Tr.ret (D.bool true) []) (brT (decide (k=(2:Int))) (Tr.ret (D.bool true) []) (Tr.ret (D.bool (decide (k=(4:Int)))) []))
theorem CVal1_eq (k n:Int) (s:List UInt8) (a:List (List D)):goT Tryz.prog (dCtr []) 0 (finF false 0 rs47) 2000 [Fr.sc sc47] { tm:=envOf 0 ([]++[D.agg (tC k n s a)]++[]),ob:=[] }=CVal1 k n s a:=by kernel_rfl
noncomputable def CGr1 (k n:Int) (s:List UInt8) (a:List (List D)):Tr:=Tr.ret (D.bool !decide (k=(3:Int))) []
theorem CGr1_eq (k n:Int) (s:List UInt8) (a:List (List D)):goT Tryz.prog (dCtr []) 0 (finF false 0 rs46) 2000 [Fr.sc sc46] { tm:=envOf 0 ([]++[D.agg (tC k n s a)]++[]),ob:=[] }=CGr1 k n s a:=by kernel_rfl
noncomputable def PVue (k n:Int) (s:List UInt8) (a:List (List D)) (b v:Bool):Tr:=Tr.owe (CallL Tryz.prog (D.func (Fn.func 43) [] []) [D.agg [D.int .u8 k,D.int .i64 n,D.str s,D.slice a []],D.func (Fn.func 47) [] []] [] fun r0 o=>r0=D.bool b/\o=[]) (brT b (Tr.owe (FnOK Tryz.prog 20 [D.agg [D.int .u8 k,D.int .i64 n,D.str s,D.slice a []]] (D.bool v)) (Tr.ret (D.bool v) [])) (Tr.ret (D.bool false) []))
theorem PVue_eq (k n:Int) (s:List UInt8) (a:List (List D)) (b v:Bool):goT Tryz.prog (dCtr [(9,D.bool v)] [] (asmK (D.bool b))) 0 (finF true 0 rs23) 2000 [Fr.sc sc23] { tm:=envOf 0 [D.agg (tC k n s a)],ob:=[] }=PVue k n s a b v:=by kernel_rfl
noncomputable def PGr (k n:Int) (s:List UInt8) (a:List (List D)) (b:Bool):Tr:=Tr.owe (CallL Tryz.prog (D.func (Fn.func 43) [] []) [D.agg [D.int .u8 k,D.int .i64 n,D.str s,D.slice a []],D.func (Fn.func 46) [] []] [] fun r0 o=>r0=D.bool b/\o=[]) (Tr.ret (D.bool b) [])
theorem PGr_eq (k n:Int) (s:List UInt8) (a:List (List D)) (b:Bool):goT Tryz.prog (dCtr [] [] (asmK (D.bool b))) 0 (finF true 0 rs21) 2000 [Fr.sc sc21] { tm:=envOf 0 [D.agg (tC k n s a)],ob:=[] }=PGr k n s a b:=by kernel_rfl
theorem value1_ok (x:Tm) (hx:x.wf 281474976710656):CallL Tryz.prog (.func (.func 47) [] []) [.agg x.cells] [] fun r ob=>r= .bool x.plain/\ob=[]:=by
 obtain⟨k,n,s,l⟩:=x
 refine CallL.tree hdraw fp47 (dCtr_ok qnone_ok) (CVal1_eq k n s (Tm.cellsL l)) ?_
 unfold CVal1
 have e1:decide ((k:Int)=1)=decide (k=1):=by rw[Bool.eq_iff_iff]; simp; omega
 have e2:decide ((k:Int)=2)=decide (k=2):=by rw[Bool.eq_iff_iff]; simp; omega
 have e4:decide ((k:Int)=4)=decide (k=4):=by rw[Bool.eq_iff_iff]; simp; omega
 simp only[ok_br,ok_ret,Tm.plain,e1,e2,e4]
 exact⟨fun h=>⟨by rw[h]; rfl,by first | rfl | trivial⟩,fun h=>⟨fun h2=>⟨by rw[h2,h]; rfl,by first | rfl | trivial⟩,fun h2=>⟨by rw[h2,h]; rfl,by first | rfl | trivial⟩⟩⟩
theorem ground1_ok (x:Tm) (hx:x.wf 281474976710656):CallL Tryz.prog (.func (.func 46) [] []) [.agg x.cells] [] fun r ob=>r= .bool x.gr/\ob=[]:=by
 obtain⟨k,n,s,l⟩:=x
 refine CallL.tree hdraw fp46 (dCtr_ok qnone_ok) (CGr1_eq k n s (Tm.cellsL l)) ?_
 unfold CGr1
 have e1:decide ((k:Int)=3)=decide (k=3):=by rw[Bool.eq_iff_iff]; simp; omega
 rw[ok_ret,e1]
 exact⟨rfl,rfl⟩
theorem ground_ok (x:Tm) (hx:x.wf 281474976710656):FnOK Tryz.prog 21 [.agg x.cells] (.bool (x.all Tm.gr)):=by
 have h2:=every_ok (h:=Tm.gr) ground1_ok x hx
 generalize x.all Tm.gr=b at h2 ⊢
 obtain⟨k,n,s,l⟩:=x
 refine FnOK.tree hdraw fp21 (dCtr_ok (asmK_ok (.bool b))) (PGr_eq k n s (Tm.cellsL l) b) ?_
 unfold PGr
 rw[ok_owe,ok_ret]
 exact⟨h2,rfl⟩
theorem value_ok (x:Tm) (hx:x.wf 281474976710656) (hd:x.depth<=1000000000):FnOK Tryz.prog 23 [.agg x.cells] (.bool (x.all Tm.plain && x.valid)):=by
 have h1:=valid_ok x hx hd
 have h2:=every_ok (h:=Tm.plain) value1_ok x hx
 generalize x.all Tm.plain=b at h2 ⊢
 generalize x.valid=v at h1 ⊢
 obtain⟨k,n,s,l⟩:=x
 refine FnOK.tree hdraw fp23 (dCtr_ok (asmK_ok (.bool b))) (PVue_eq k n s (Tm.cellsL l) b v) ?_
 unfold PVue
 rw[ok_owe,ok_br,ok_owe,ok_ret,ok_ret]
 exact⟨h2,fun h=>⟨h1,by rw[h,Bool.true_and]⟩,fun h=>by rw[h,Bool.false_and]⟩
end Go.Proofs.YtfoklncmfoogcaaGreatDoor
