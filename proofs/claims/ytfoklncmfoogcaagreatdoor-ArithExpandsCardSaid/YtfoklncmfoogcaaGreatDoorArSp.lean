/- Intervals in a term. -/
import Derived.Test.YtfoklncmfoogcaaGreatDoorVaC
import Derived.Test.YtfoklncmfoogcaaGreatDoorCmD
import Derived.Test.YtfoklncmfoogcaaGreatDoorSx8
set_option linter.unusedSectionVars false
set_option linter.unusedVariables false
set_option linter.unusedSimpArgs false
set_option linter.deprecated false
set_option maxRecDepth 100000
namespace Go.Proofs.YtfoklncmfoogcaaGreatDoor
open Go.Sx
noncomputable def PIxS (es:List (List D)):Tr:=Tr.jmp (cut sc99 0) { tm:=[(0,D.slice es []),(1,D.func (Fn.func 53) [] []),(7,D.int .i64 (↑(List.length es):Int)),(8,D.int .i64 (0:Int))],ob:=[] }
theorem PIxS_eq (es:List (List D)):goT Tryz.prog (ctr libT) 0 (finF false 0 rs99) 2000 [Fr.sc sc99] { tm:=envOf 0 ([]++[D.slice es [],D.func (Fn.func 53) [] []]++[]),ob:=[] }=PIxS es:=by kernel_rfl
def hdIxS (es:List (List D)) (n i:Int):St:=⟨[(0,.slice es []),(1,.func (.func 53) [] []),(7,.int .i64 n),(8,.int .i64 i)],[]⟩
noncomputable def PIxS2 (es:List (List D)) (m i k n:Int) (s:List UInt8) (a:List (List D)) (b:Bool):Tr:=brT (decide (i<m)) (Tr.owe ((0:Int)<=i/\es[Int.toNat i]? = some [D.int .u8 k,D.int .i64 n,D.str s,D.slice a []]) (Tr.owe (CallL Tryz.prog (D.func (Fn.func 53) [] []) [D.agg [D.int .u8 k,D.int .i64 n,D.str s,D.slice a []]] [] fun r0 ob0=>r0=D.bool b/\ob0=[]) (brT b (Tr.ret (D.int .i64 i) []) (Tr.owe ((-9223372036854775808:Int)<=i+(1:Int)/\i+(1:Int)<=(9223372036854775807:Int)) (Tr.jmp (cut sc99 0) { tm:=[(0,D.slice es []),(1,D.func (Fn.func 53) [] []),(7,D.int .i64 m),(8,D.int .i64 (i+(1:Int)))],ob:=[] }))))) (Tr.ret (D.int .i64 (-1:Int)) [])
theorem PIxS2_eq (es:List (List D)) (m i k n:Int) (s:List UInt8) (a:List (List D)) (b:Bool):goT Tryz.prog (ctr libT (asmQ (D.bool b)) (eOne (tC k n s a))) 0 (finF false 0 rs99) 2000 (cut sc99 0) (hdIxS es m i)=PIxS2 es m i k n s a b:=by kernel_rfl
noncomputable def PCtS (es:List (List D)) (r:Int):Tr:=Tr.owe (CallL Tryz.prog (D.func (Fn.func 99) [] []) [D.slice es [],D.func (Fn.func 53) [] []] [] fun r0 ob0=>r0=D.int .i64 r/\ob0=[]) (Tr.ret (D.bool (decide ((0:Int)<=r))) [])
theorem PCtS_eq (es:List (List D)) (r:Int):goT Tryz.prog (ctr libT (asmO (D.int .i64 r) [])) 0 (finF false 0 rs78) 2000 [Fr.sc sc78] { tm:=envOf 0 ([]++[D.slice es [],D.func (Fn.func 53) [] []]++[]),ob:=[] }=PCtS es r:=by kernel_rfl
noncomputable def CSpn (k n:Int) (s:List UInt8) (a:List (List D)) (b:Bool):Tr:=brT (decide (k=(6:Int))) (Tr.ret (D.bool true) []) (Tr.owe (CallL Tryz.prog (D.func (Fn.func 78) [] []) [D.slice a [],D.func (Fn.func 53) [] []] [] fun r0 ob0=>r0=D.bool b/\ob0=[]) (Tr.ret (D.bool b) []))
theorem CSpn_eq (k n:Int) (s:List UInt8) (a:List (List D)) (b:Bool):goT Tryz.prog (ctr libT (asmO (D.bool b) [])) 0 (finF false 0 rs53) 2000 [Fr.sc sc53] { tm:=envOf 0 ([]++[D.agg (tC k n s a)]++[]),ob:=[] }=CSpn k n s a b:=by kernel_rfl
def SpC (x:Tm):Prop:=CallL Tryz.prog (.func (.func 53) [] []) [.agg x.cells] [] fun r ob=>r= .bool x.sp/\ob=[]
theorem ixS_at (l:List Tm) (hl:l.length<=281474976710656) (H: ∀ x∈l,SpC x): ∀ (m i:Nat),l.length-i=m->i<=l.length →
  At Tryz.prog 0 (cut sc99 0) (hdIxS (Tm.cellsL l) l.length i) (FinQ false 0 rs99 fun r ob=>r= .int .i64 (anyI Tm.sp (l.drop i) i)/\ob=[]):=by
 intro m
 induction m with
 | zero =>
  intro i hm hi
  refine At.tree (ctr_ok libT_ok (asmQ_ok _)) (PIxS2_eq (Tm.cellsL l) l.length i 0 0 [] [] true) ?_
  unfold PIxS2
  rw[List.drop_eq_nil_of_le (by omega)]
  simp only[SS,cellsL_length]
  exact⟨fun h=>by omega,fun _=>rfl⟩
 | succ m ih =>
  intro i hm hi
  have h1:i<l.length:=by omega
  have hx:=cellsL_get h1
  have hC:=H _ (List.getElem_mem h1)
  have hI:=ih (i+1) (by omega) (by omega)
  rw[drop_cons h1]
  simp only[anyI]
  unfold SpC at hC
  generalize Tm.sp l[i]=b at hC ⊢
  generalize l[i]=x at hx hC
  obtain⟨k,n,s,a⟩:=x
  refine At.tree (ctr_ok libT_ok (asmQ_ok _)) (PIxS2_eq (Tm.cellsL l) l.length i k n s (Tm.cellsL a) b) ?_
  unfold PIxS2
  simp only[SS,cellsL_length]
  refine⟨fun _=>⟨⟨by omega,hx⟩,hC,fun h=>by rw[if_pos h],fun h=>⟨by omega, ?_⟩⟩,fun h=>by omega⟩
  rw[if_neg (by simp[h])]
  exact hI
theorem spC_ok: ∀ x:Tm,x.wf 281474976710656->SpC x
 | .mk k n s l,hx=>by
  simp only[Tm.wf] at hx
  obtain⟨hk,hn1,hn2,hs,hl,hw⟩:=hx
  have hA:=ixS_at l hl (fun x hx=>spC_ok x (wf_get hw hx)) _ 0 rfl (Nat.zero_le _)
  have hI:CallL Tryz.prog (.func (.func 99) [] []) [.slice (Tm.cellsL l) [],.func (.func 53) [] []] [] fun r ob=>r= .int .i64 (anyI Tm.sp l 0)/\ob=[]:=by
   refine CallL.tree hdraw fp99 (ctr_ok libT_ok qnone_ok) (PIxS_eq (Tm.cellsL l)) ?_
   unfold PIxS
   simp only[SS,cellsL_length]
   exact hA
  have hT:CallL Tryz.prog (.func (.func 78) [] []) [.slice (Tm.cellsL l) [],.func (.func 53) [] []] [] fun r ob=>r= .bool (l.any Tm.sp)/\ob=[]:=by
   refine CallL.tree hdraw fp78 (ctr_ok libT_ok (asmO_ok _ _)) (PCtS_eq (Tm.cellsL l) (anyI Tm.sp l 0)) ?_
   unfold PCtS
   simp only[SS]
   exact⟨hI,anyI_ge Tm.sp l 0 (by decide)⟩
  unfold SpC
  rw[sp_kids]
  generalize l.any Tm.sp=b at hT ⊢
  refine CallL.tree hdraw fp53 (ctr_ok libT_ok (asmO_ok _ _)) (CSpn_eq k n s (Tm.cellsL l) b) ?_
  unfold CSpn
  have e1:((k:Int)=6)=(k=6):=propext (by omega)
  simp only[SS,e1]
  exact⟨fun h=>by simp[h],fun h=>⟨hT,by simp[h]⟩⟩
termination_by x=>SizeOf.sizeOf x
decreasing_by
 have:=List.sizeOf_lt_of_mem hx
 simp only[Tm.mk.sizeOf_spec]
 omega
end Go.Proofs.YtfoklncmfoogcaaGreatDoor
