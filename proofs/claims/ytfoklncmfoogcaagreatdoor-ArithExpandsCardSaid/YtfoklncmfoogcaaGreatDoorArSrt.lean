/- slices.SortFunc,slices.CompactFunc,arith.set,at numbers. -/
import Derived.Test.YtfoklncmfoogcaaGreatDoorCmD
import Derived.Test.YtfoklncmfoogcaaGreatDoorArSet
import Derived.Test.YtfoklncmfoogcaaGreatDoorShelfN
import Derived.Test.YtfoklncmfoogcaaGreatDoorSx9
set_option linter.unusedSectionVars false
set_option linter.unusedVariables false
set_option linter.unusedSimpArgs false
set_option linter.deprecated false
set_option maxRecDepth 100000
namespace Go.Proofs.YtfoklncmfoogcaaGreatDoor
open Go.Sx Go.RowKit
theorem compN (x y:Int):CallL Tryz.prog (.func (.func 24) [] []) [.agg [.int .u8 1,.int .i64 x,.str [],.slice [] []],.agg [.int .u8 1,.int .i64 y,.str [],.slice [] []]] [] fun r ob=>r= .int .i64 (ncmp x y)/\ob=[]:=by
 have hC:=cf_ok [] [] [] [] (by simp) (by simp) (fun x hx=>by cases hx)
 refine CallL.tree hdraw fp24 (ctr_ok cmpPT_ok (asmQ_ok (.int .i64 0))) (PCo_eq 1 x [] [] 1 y [] [] 0 [] []) ?_
 unfold PCo
 simp only[SS,fst0]
 have h1:Lib.compareBytes [] []=0:=by simp[Lib.compareBytes]
 have h2:ncmp 0 0=0:=rfl
 have hC':CallL Tryz.prog (.func (.func 52) [] []) [.slice [] [],.slice [] [],.func (.func 24) [] []] [] fun r ob=>r= .int .i64 0/\ob=[]:=by simpa [Tm.cmpL,Tm.cellsL] using hC
 refine⟨by omega,by omega,fun h=>absurd rfl h,fun _=>⟨fun _ h=>absurd trivial h,fun h=>⟨hC', ?_⟩⟩⟩
 simp[h1,h2,h]
theorem sort_ok (q:List Int) (hnd:q.Nodup) (hne:q≠[]) (hlt:q.length<4611686018427387904):CallL Tryz.prog (.func (.func 102) [] []) [.vec 0,.func (.func 24) [] []] [(0,.arr false 4 33 (numC q))]
  fun r ob=>r= .tuple []/\ob=[(0,.arr false 4 33 (numC (sortI q)))] :=
 CallL.sortK (by kernel_rfl) (by kernel_rfl) (fun blk cap d w hc hH hb hs=>Go.Proofs.AnyQ.slices_SortFunc Tryz.sortL 4 Tryz.isAgg33 Tryz.sizeOf33 encN encN_len encN_one cfN swoN 24 #[] blk 0 cap d w (enters_of Tryz.func24 (by kernel_rfl) rfl) hc hH hb hs) compN _ q hnd hne hlt
noncomputable def PEqC (k n:Int) (s:List UInt8) (a:List (List D)) (k' n':Int) (s':List UInt8) (a':List (List D)) (c:Int):Tr:=Tr.owe (FnOK Tryz.prog 24 [D.agg [D.int .u8 k,D.int .i64 n,D.str s,D.slice a []],D.agg [D.int .u8 k',D.int .i64 n',D.str s',D.slice a' []]] (D.int .i64 c)) (Tr.ret (D.bool (decide (c=(0:Int)))) [])
theorem PEqC_eq (k n:Int) (s:List UInt8) (a:List (List D)) (k' n':Int) (s':List UInt8) (a':List (List D)) (c:Int):goT Tryz.prog (ctr (asmP (D.int .i64 c))) 0 (finF false 0 rs19) 2000 [Fr.sc sc19] { tm:=envOf 0 ([]++[D.agg [D.int .u8 k,D.int .i64 n,D.str s,D.slice a []],D.agg [D.int .u8 k',D.int .i64 n',D.str s',D.slice a' []]]++[]),ob:=[] }=PEqC k n s a k' n' s' a' c:=by kernel_rfl
noncomputable def PCpf (es:List (List D)):Tr:=brT (decide ((↑(List.length es):Int)<(2:Int))) (Tr.ret (D.vec 0) [(0,Ob.arr false 4 33 es)]) (Tr.jmp (cut sc103 0) { tm:=[(0,D.vec 0),(1,D.func (Fn.func 19) [] []),(5,D.int .i64 (1:Int))],ob:=[(0,Ob.arr false 4 33 es)] })
theorem PCpf_eq (es:List (List D)):goT Tryz.prog (ctr libT) 1 (finF false 1 rs103) 2000 [Fr.sc sc103] { tm:=envOf 0 ([]++[D.vec 0,D.func (Fn.func 19) [] []]++[]),ob:=[(0,Ob.arr false 4 33 es)] }=PCpf es:=by kernel_rfl
def hdCp (es:List (List D)) (i:Int):St:=⟨[(0,.vec 0),(1,.func (.func 19) [] []),(5,.int .i64 i)],[(0,.arr false 4 33 es)]⟩
noncomputable def PCp2 (es:List (List D)) (i:Nat) (a b:Int):Tr:=brT (decide ((↑i:Int)<(↑(List.length es):Int))) (Tr.owe ((0:Int)<=(↑i:Int)/\(↑i:Int)<(↑(List.length es):Int)) (Tr.owe (es[Int.toNat (↑i:Int)]? = some [D.int .u8 (1:Int),D.int .i64 a,D.str [],D.slice [] []]) (Tr.owe ((-9223372036854775808:Int)<=(↑i:Int)-(1:Int)/\(↑i:Int)-(1:Int)<=(9223372036854775807:Int)) (Tr.owe ((0:Int)<=(↑i:Int)-(1:Int)/\(↑i:Int)-(1:Int)<(↑(List.length es):Int)) (Tr.owe (es[Int.toNat ((↑i:Int)-(1:Int))]? = some [D.int .u8 (1:Int),D.int .i64 b,D.str [],D.slice [] []]) (Tr.owe (CallL Tryz.prog (D.func (Fn.func 19) [] []) [D.agg [D.int .u8 (1:Int),D.int .i64 a,D.str [],D.slice [] []],D.agg [D.int .u8 (1:Int),D.int .i64 b,D.str [],D.slice [] []]] [] fun r0 ob0=>r0=D.bool false/\ob0=[]) (Tr.owe ((-9223372036854775808:Int)<=(↑i:Int)+(1:Int)/\(↑i:Int)+(1:Int)<=(9223372036854775807:Int)) (Tr.jmp (cut sc103 0) { tm:=[(0,D.vec 0),(1,D.func (Fn.func 19) [] []),(5,D.int .i64 ((↑i:Int)+(1:Int)))],ob:=[(0,Ob.arr false 4 33 es)] })))))))) (Tr.ret (D.vec 0) [(0,Ob.arr false 4 33 es)])
theorem PCp2_eq (es:List (List D)) (i:Nat) (a b:Int):goT Tryz.prog (ctr libT (asmQ (D.bool false)) (eTwo 22 [D.int .u8 (1:Int),D.int .i64 a,D.str [],D.slice [] []] [D.int .u8 (1:Int),D.int .i64 b,D.str [],D.slice [] []])) 1 (finF false 1 rs103) 2000 (cut sc103 0) (hdCp es (↑i:Int))=PCp2 es i a b:=by kernel_rfl
noncomputable def PSet (es es':List (List D)):Tr:=Tr.owe (CallL Tryz.prog (D.func (Fn.func 102) [] []) [D.vec 0,D.func (Fn.func 24) [] []] [(0,Ob.arr false 4 33 es)] fun r0 ob0=>r0=D.tuple []/\ob0=[(0,Ob.arr false 4 33 es')]) (Tr.owe (CallL Tryz.prog (D.func (Fn.func 103) [] []) [D.vec 0,D.func (Fn.func 19) [] []] [(0,Ob.arr false 4 33 es')] fun r0 ob0=>r0=D.vec 0/\ob0=[(0,Ob.arr false 4 33 es')]) (Tr.owe ((↑(List.length es'):Int)<=(1000:Int)) (Tr.ret (D.vec 0) [(0,Ob.arr false 4 33 es')])))
theorem PSet_eq (es es':List (List D)):goT Tryz.prog { F:=fun x=>limP,C:=fun t=>asmO (if t=6 then D.vec 0 else D.tuple []) [(0,Ob.arr false 4 33 es')],E:=noE } 1 (finF false 1 rs84) 2000 [Fr.sc sc84] { tm:=envOf 0 ([]++[D.vec 0]++[]),ob:=[(0,Ob.arr false 4 33 es)] }=PSet es es':=by kernel_rfl
theorem eqN (x y:Int) (h:x≠y):CallL Tryz.prog (.func (.func 19) [] []) [.agg [.int .u8 1,.int .i64 x,.str [],.slice [] []],.agg [.int .u8 1,.int .i64 y,.str [],.slice [] []]] [] fun r ob=>r= .bool false/\ob=[]:=by
 have hC:FnOK Tryz.prog 24 [.agg [.int .u8 1,.int .i64 x,.str [],.slice [] []],.agg [.int .u8 1,.int .i64 y,.str [],.slice [] []]] (.int .i64 (ncmp x y)) :=
  FnOK.of_call pureC ((compN x y).mono fun r ob ⟨h1,h2⟩=>by subst h1; subst h2; exact .inr ⟨rfl,rfl⟩)
 refine CallL.tree hdraw fp19 (ctr_ok (asmP_ok (.int .i64 (ncmp x y))) qnone_ok) (PEqC_eq 1 x [] [] 1 y [] [] (ncmp x y)) ?_
 unfold PEqC
 simp only[SS]
 refine⟨hC, ?_⟩
 have:ncmp x y≠0:=by unfold ncmp; split <;> (try split) <;> omega
 simp[this]
theorem numC_get {l:List Int} {i:Nat} (h:i<l.length):(numC l)[i]? = some [.int .u8 1,.int .i64 l[i],.str [],.slice [] []]:=by simp[numC,h]
theorem cp_at (l:List Int) (hl:l.length<=1000) (hs:l.Pairwise (· < ·)): ∀ (m i:Nat),l.length-i=m->i<=l.length->1<=i →
  At Tryz.prog 1 (cut sc103 0) (hdCp (numC l) i) (FinQ false 1 rs103 fun r ob=>r= .vec 0/\ob=[(0,.arr false 4 33 (numC l))]):=by
 intro m
 induction m with
 | zero =>
  intro i hm hi h1
  refine At.tree (ctr_ok libT_ok (asmQ_ok (.bool false))) (PCp2_eq (numC l) i 0 0) ?_
  unfold PCp2
  simp only[SS,numC_len]
  exact⟨fun h=>by omega,fun _=>trivial⟩
 | succ m ih =>
  intro i hm hi h1
  have h2:i<l.length:=by omega
  have hI:=ih (i+1) (by omega) (by omega) (by omega)
  have hE:=eqN l[i] l[i-1] (by
   have:=List.pairwise_iff_getElem.1 hs (i-1) i (by omega) h2 (by omega)
   omega)
  have hg:(numC l)[((i:Int)-1).toNat]? = some [.int .u8 1,.int .i64 l[i-1],.str [],.slice [] []]:=by
   rw[show ((i:Int)-1).toNat=i-1 by omega]; exact numC_get (by omega)
  refine At.tree (ctr_ok libT_ok (asmQ_ok (.bool false))) (PCp2_eq (numC l) i l[i] l[i-1]) ?_
  unfold PCp2
  simp only[SS,numC_len]
  exact⟨fun _=>⟨by omega,numC_get h2,by omega,by omega,hg,hE,by omega,hI⟩,fun h=>by omega⟩
theorem cpt_ok (l:List Int) (hl:l.length<=1000) (hs:l.Pairwise (· < ·)):CallL Tryz.prog (.func (.func 103) [] []) [.vec 0,.func (.func 19) [] []] [(0,.arr false 4 33 (numC l))]
  fun r ob=>r= .vec 0/\ob=[(0,.arr false 4 33 (numC l))]:=by
 refine CallL.tree hdraw fp103 (ctr_ok libT_ok qnone_ok) (PCpf_eq (numC l)) ?_
 unfold PCpf
 simp only[SS,numC_len]
 exact⟨fun _=>trivial,fun h=>cp_at l hl hs _ 1 rfl (by omega) (Nat.le_refl _)⟩
theorem setQ_ok (es:Nat->D) (ob':Obs):(⟨fun _=>limP,fun t=>asmO (es t) ob',noE⟩:Ctr).OK Tryz.prog:=⟨fun _=>limP_ok,fun t=>asmO_ok (es t) ob'⟩
theorem perm_nodup {q l:List Int} (h:q.Perm l) (hn:l.Nodup):q.Nodup:=h.nodup_iff.2 hn
theorem set_ok (q:List Int) (hnd:q.Nodup) (hl:q.length<=1000):SetC q (sortI q):=by
 by_cases hne:q=[]
 ·subst hne; exact set0
 ·refine CallL.frz ?_
  refine CallL.tree hdraw fp84 (setQ_ok _ _) (PSet_eq (numC q) (numC (sortI q))) ?_
  unfold PSet
  have hlen:=sortI_len hnd
  simp only[SS,numC_len,hlen]
  exact⟨sort_ok q hnd hne (by omega),cpt_ok _ (by omega) (sortI_lt q),by omega⟩
end Go.Proofs.YtfoklncmfoogcaaGreatDoor
