/- Valid; the text of a number. -/
import Derived.Test.YtfoklncmfoogcaaGreatDoorShape
set_option linter.unusedSectionVars false
set_option linter.unusedVariables false
set_option linter.unusedSimpArgs false
set_option linter.deprecated false
set_option maxRecDepth 100000
namespace Go.Proofs.YtfoklncmfoogcaaGreatDoor
open Go.Sx
theorem dep_ok: ∀ x:Tm,x.wf 281474976710656->x.depth<=1000000000->DepP x
 | .mk k n s l,hx,hd=>by
  simp only[Tm.wf] at hx
  obtain⟨hk,hn1,hn2,hs,hl,hw⟩:=hx
  simp only[Tm.depth] at hd
  have hel: ∀ x∈l,x.depth<=Tm.depthL l:=by
   clear hl hw hd
   induction l with
   | nil=>intro x hx; cases hx
   | cons a r ih =>
    intro x hx
    simp only[Tm.depthL]
    rcases List.mem_cons.1 hx with rfl | hx
    ·exact Nat.le_max_left ..
    ·exact Nat.le_trans (ih x hx) (Nat.le_max_right ..)
  have hA:=dep_at l hl (fun x hx=>dep_ok x (wfL_all.1 hw x hx) (Nat.le_trans (hel x hx) (by omega))) (fun x hx=>Nat.le_trans (hel x hx) (by omega)) _ 0 0 rfl (Nat.zero_le _) (Nat.zero_le _)
  refine FnOK.tree hdraw fp42 (dCtr_ok qnone_ok) (PDep_eq k n s (Tm.cellsL l)) ?_
  unfold PDep
  rw[ok_jmp,cellsL_length]
  have e:Nat.max 0 (Tm.depthL (l.drop 0))=Tm.depthL l:=Nat.zero_max _
  rw[e] at hA
  exact hA
termination_by x=>SizeOf.sizeOf x
decreasing_by
 have:=List.sizeOf_lt_of_mem hx
 simp only[Tm.mk.sizeOf_spec]
 omega
noncomputable def CV1 (k n:Int) (s:List UInt8) (a:List (List D)) (b:Bool):Tr:=Tr.owe (FnOK Tryz.prog 45 [D.agg [D.int .u8 k,D.int .i64 n,D.str s,D.slice a []]] (D.bool b)) (Tr.ret (D.bool b) [])
theorem CV1_eq (k n:Int) (s:List UInt8) (a:List (List D)) (b:Bool):goT Tryz.prog (dCtr [(5,D.bool b)]) 0 (finF false 0 rs44) 2000 [Fr.sc sc44] { tm:=envOf 0 ([]++[D.agg (tC k n s a)]++[]),ob:=[] }=CV1 k n s a b:=by kernel_rfl
theorem valid1_ok (x:Tm) (hx:x.wf 281474976710656):CallL Tryz.prog (.func (.func 44) [] []) [.agg x.cells] [] fun r ob=>r= .bool x.shape/\ob=[]:=by
 obtain⟨k,n,s,l⟩:=x
 simp only[Tm.wf] at hx
 have h:=shape_ok k n s (Tm.cellsL l) (by omega)
 rw[cellsL_length] at h
 simp only[Tm.shape]
 generalize shapeB k n s l.length=b at h ⊢
 refine CallL.tree hdraw fp44 (dCtr_ok qnone_ok) (CV1_eq k n s (Tm.cellsL l) b) ?_
 unfold CV1
 rw[ok_owe,ok_ret]
 exact⟨h,rfl,rfl⟩
noncomputable def PVal (k n:Int) (s:List UInt8) (a:List (List D)) (d:Int) (b:Bool):Tr:=Tr.owe (FnOK Tryz.prog 42 [D.agg [D.int .u8 k,D.int .i64 n,D.str s,D.slice a []]] (D.int .i64 d)) (brT (decide (d<=(12:Int))) (Tr.owe (CallL Tryz.prog (D.func (Fn.func 43) [] []) [D.agg [D.int .u8 k,D.int .i64 n,D.str s,D.slice a []],D.func (Fn.func 44) [] []] [] fun r0 o=>r0=D.bool b/\o=[]) (Tr.ret (D.bool b) [])) (Tr.ret (D.bool false) []))
theorem PVal_eq (k n:Int) (s:List UInt8) (a:List (List D)) (d:Int) (b:Bool):goT Tryz.prog (dCtr [(4,D.int .i64 d)] [] (asmK (D.bool b))) 0 (finF true 0 rs20) 2000 [Fr.sc sc20] { tm:=envOf 0 [D.agg (tC k n s a)],ob:=[] }=PVal k n s a d b:=by kernel_rfl
theorem valid_ok (x:Tm) (hx:x.wf 281474976710656) (hd:x.depth<=1000000000):FnOK Tryz.prog 20 [.agg x.cells] (.bool x.valid):=by
 have h1:=dep_ok x hx hd
 have h2:=every_ok (h:=Tm.shape) valid1_ok x hx
 unfold DepP at h1
 unfold Tm.valid
 have e1:decide (x.depth<=12)=decide ((x.depth:Int)<=12):=by rw[Bool.eq_iff_iff]; simp; omega
 rw[e1]
 generalize x.all Tm.shape=b at h2 ⊢
 generalize (x.depth:Int)=d at h1 ⊢
 obtain⟨k,n,s,l⟩:=x
 refine FnOK.tree hdraw fp20 (dCtr_ok (asmK_ok (.bool b))) (PVal_eq k n s (Tm.cellsL l) d b) ?_
 unfold PVal
 rw[ok_owe,ok_br,ok_owe,ok_ret,ok_ret]
 refine⟨h1,fun h=>⟨h2,by rw[h,Bool.true_and]⟩,fun h=>by rw[h,Bool.false_and]⟩
end Go.Proofs.YtfoklncmfoogcaaGreatDoor
