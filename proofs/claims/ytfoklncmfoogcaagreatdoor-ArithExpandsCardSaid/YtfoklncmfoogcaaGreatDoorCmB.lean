/- term.Compare. -/
import Derived.Test.YtfoklncmfoogcaaGreatDoorCmA
set_option linter.unusedSectionVars false
set_option linter.unusedVariables false
set_option linter.unusedSimpArgs false
set_option linter.deprecated false
set_option maxRecDepth 100000
namespace Go.Proofs.YtfoklncmfoogcaaGreatDoor
open Go.Sx
theorem cellsL_get {l:List Tm} {i:Nat} (h:i<l.length):(Tm.cellsL l)[i]? = some l[i].cells:=by rw[cellsL_map]; simp[h]
theorem wf_get {B:Nat} {l:List Tm} (h:Tm.wfL B l) {t:Tm} (ht:t∈l):t.wf B:=wfL_all.1 h t ht
def eTwo (t0:Nat) (c d:List D):Nat->Int->List D:=fun t _=>if t=t0 then c else d
noncomputable def PCF (es fs e e':List (List D)):Tr:=Tr.jmp (cut sc52 0) { tm:=[(0,D.slice es e),(1,D.slice fs e'),(2,D.func (Fn.func 24) [] []),(11,D.slice es e),(12,D.int .i64 (↑(List.length es):Int)),(13,D.int .i64 (0:Int))],ob:=[] }
theorem PCF_eq (es fs e e':List (List D)):goT Tryz.prog (ctr libT) 0 (finF false 0 rs52) 2000 [Fr.sc sc52] { tm:=envOf 0 ([]++[D.slice es e,D.slice fs e',D.func (Fn.func 24) [] []]++[]),ob:=[] }=PCF es fs e e':=by kernel_rfl
def hdCF (es fs e e':List (List D)) (n i:Int):St:=⟨[(0,.slice es e),(1,.slice fs e'),(2,.func (.func 24) [] []),(11,.slice es e),(12,.int .i64 n),(13,.int .i64 i)],[]⟩
noncomputable def PCF2 (es fs e e':List (List D)) (m i k n:Int) (s:List UInt8) (a:List (List D)) (k' n':Int) (s':List UInt8) (a':List (List D)) (c:Int):Tr:=brT (decide (i<m)) (Tr.owe ((0:Int)<=i/\es[Int.toNat i]? = some [D.int .u8 k,D.int .i64 n,D.str s,D.slice a []]) (brT (decide ((↑(List.length fs):Int)<=i)) (Tr.ret (D.int .i64 (1:Int)) []) (Tr.owe ((0:Int)<=i/\fs[Int.toNat i]? = some [D.int .u8 k',D.int .i64 n',D.str s',D.slice a' []]) (Tr.owe (CallL Tryz.prog (D.func (Fn.func 24) [] []) [D.agg [D.int .u8 k,D.int .i64 n,D.str s,D.slice a []],D.agg [D.int .u8 k',D.int .i64 n',D.str s',D.slice a' []]] [] fun r0 ob0=>r0=D.int .i64 c/\ob0=[]) (brT (!decide (c=(0:Int))) (Tr.ret (D.int .i64 c) []) (Tr.owe ((-9223372036854775808:Int)<=i+(1:Int)/\i+(1:Int)<=(9223372036854775807:Int)) (Tr.jmp (cut sc52 0) { tm:=[(0,D.slice es e),(1,D.slice fs e'),(2,D.func (Fn.func 24) [] []),(11,D.slice es e),(12,D.int .i64 m),(13,D.int .i64 (i+(1:Int)))],ob:=[] }))))))) (brT (decide ((↑(List.length es):Int)<(↑(List.length fs):Int))) (Tr.ret (D.int .i64 (-1:Int)) []) (Tr.ret (D.int .i64 (0:Int)) []))
theorem PCF2_eq (es fs e e':List (List D)) (m i k n:Int) (s:List UInt8) (a:List (List D)) (k' n':Int) (s':List UInt8) (a':List (List D)) (c:Int):goT Tryz.prog (ctr libT (asmQ (D.int .i64 c)) (eTwo 16 [D.int .u8 k,D.int .i64 n,D.str s,D.slice a []] [D.int .u8 k',D.int .i64 n',D.str s',D.slice a' []])) 0 (finF false 0 rs52) 2000 (cut sc52 0) (hdCF es fs e e' m i)=PCF2 es fs e e' m i k n s a k' n' s' a' c:=by kernel_rfl
def CmpC (x y:Tm):Prop:=CallL Tryz.prog (.func (.func 24) [] []) [.agg x.cells,.agg y.cells] [] fun r ob=>r= .int .i64 (x.cmp y)/\ob=[]
theorem cf_at (e e':List (List D)) (l q:List Tm) (hl:l.length<=281474976710656) (hq:q.length<=281474976710656) (H: ∀ x∈l, ∀ y∈q,CmpC x y): ∀ (m i:Nat),l.length-i=m->i<=l.length->i<=q.length →
  At Tryz.prog 0 (cut sc52 0) (hdCF (Tm.cellsL l) (Tm.cellsL q) e e' l.length i) (FinQ false 0 rs52 fun r ob=>r= .int .i64 (Tm.cmpL (l.drop i) (q.drop i))/\ob=[]):=by
 intro m
 induction m with
 | zero =>
  intro i hm hi hiq
  refine At.tree (ctr_ok libT_ok (asmQ_ok (.int .i64 0))) (PCF2_eq (Tm.cellsL l) (Tm.cellsL q) e e' l.length i 0 0 [] [] 0 0 [] [] 0) ?_
  unfold PCF2
  rw[List.drop_eq_nil_of_le (by omega)]
  simp only[SS,cellsL_length]
  refine⟨fun h=>by omega,fun _=>⟨fun h=> ?_,fun h=> ?_⟩⟩
  ·rw[drop_cons (show i<q.length by omega)]; rfl
  ·rw[List.drop_eq_nil_of_le (by omega)]; rfl
 | succ m ih =>
  intro i hm hi hiq
  have h1:i<l.length:=by omega
  have hx:=cellsL_get h1
  have hmx:l[i]∈l:=List.getElem_mem h1
  have hd:=drop_cons h1
  by_cases h2:i<q.length
  ·have hy:=cellsL_get h2
   have hC:=H _ hmx _ (List.getElem_mem h2)
   rw[hd,drop_cons h2]
   simp only[Tm.cmpL]
   unfold CmpC at hC
   generalize hc:Tm.cmp l[i] q[i]=c at hC ⊢
   generalize l[i]=x at hx hC
   generalize q[i]=y at hy hC
   obtain⟨k,n,s,a⟩:=x
   obtain⟨k',n',s',a'⟩:=y
   refine At.tree (ctr_ok libT_ok (asmQ_ok (.int .i64 c))) (PCF2_eq (Tm.cellsL l) (Tm.cellsL q) e e' l.length i k n s (Tm.cellsL a) k' n' s' (Tm.cellsL a') c) ?_
   unfold PCF2
   simp only[SS,cellsL_length]
   refine⟨fun _=>⟨⟨by omega,hx⟩,fun h=>by omega,fun _=>⟨⟨by omega,hy⟩,hC,fun h=>by rw[if_pos h],fun h=>⟨by omega, ?_⟩⟩⟩,fun h=>by omega⟩
   rw[if_neg (by simpa using h)]
   exact ih (i+1) (by omega) (by omega) (by omega)
  ·rw[hd,List.drop_eq_nil_of_le (show q.length<=i by omega)]
   generalize l[i]=x at hx
   obtain⟨k,n,s,a⟩:=x
   refine At.tree (ctr_ok libT_ok (asmQ_ok (.int .i64 0))) (PCF2_eq (Tm.cellsL l) (Tm.cellsL q) e e' l.length i k n s (Tm.cellsL a) 0 0 [] [] 0) ?_
   unfold PCF2
   simp only[SS,cellsL_length]
   exact⟨fun _=>⟨⟨by omega,hx⟩,fun _=>rfl,fun h=>by omega⟩,fun h=>by omega⟩
theorem cf_ok (e e':List (List D)) (l q:List Tm) (hl:l.length<=281474976710656) (hq:q.length<=281474976710656) (H: ∀ x∈l, ∀ y∈q,CmpC x y):CallL Tryz.prog (.func (.func 52) [] []) [.slice (Tm.cellsL l) e,.slice (Tm.cellsL q) e',.func (.func 24) [] []] [] fun r ob=>r= .int .i64 (Tm.cmpL l q)/\ob=[]:=by
 refine CallL.tree hdraw fp52 (ctr_ok libT_ok qnone_ok) (PCF_eq (Tm.cellsL l) (Tm.cellsL q) e e') ?_
 unfold PCF
 simp only[SS,cellsL_length]
 exact cf_at e e' l q hl hq H _ 0 rfl (Nat.zero_le _) (Nat.zero_le _)
def cmpPT:PT:=fun f xs=>match xs with
 | [.int .u8 k]=>if f=49 then some (.ok (0<=k/\k<=255) (.int .i64 (rkI k)) []) else none
 | [.int .i64 a,.int .i64 b]=>if f=48 then some (.ok True (.int .i64 (ncmp a b)) []) else none
 | [.slice [[.int .i64 a],[.int .i64 b],[.int .i64 c],[.int .i64 d]] []]=>if f=50 then some (.ok True (.int .i64 (fst0 [a,b,c,d])) []) else none
 | xs=>libT f xs
theorem cmpPT_ok:cmpPT.OK:=by
 intro f xs rt h
 unfold cmpPT at h
 split at h
 ·split at h
  ·rename_i hf; subst hf; cases h; exact fun hk=>rank_ok _ hk
  ·cases h
 ·split at h
  ·rename_i hf; subst hf; cases h; exact fun _=>ncmp_ok _ _
  ·cases h
 ·split at h
  ·rename_i hf; subst hf; cases h; exact fun _=>or_ok _ _ _ _
  ·cases h
 ·exact libT_ok _ _ _ h
noncomputable def PCo (k n:Int) (s:List UInt8) (a:List (List D)) (k' n':Int) (s':List UInt8) (a':List (List D)) (c:Int) (e e':List (List D)):Tr:=Tr.owe ((0:Int)<=k/\k<=(255:Int)) (Tr.owe ((0:Int)<=k'/\k'<=(255:Int)) (Tr.owe True (brT (!decide (ncmp (rkI k) (rkI k')=(0:Int))) (Tr.ret (D.int .i64 (ncmp (rkI k) (rkI k'))) []) (Tr.owe True (brT (!decide (ncmp n n'=(0:Int))) (brT (decide (k=(1:Int))) (Tr.ret (D.int .i64 (ncmp n n')) []) (Tr.owe True (Tr.owe True (Tr.owe (CallL Tryz.prog (D.func (Fn.func 52) [] []) [D.slice a e,D.slice a' e',D.func (Fn.func 24) [] []] [] fun r0 ob0=>r0=D.int .i64 c/\ob0=[]) (Tr.owe True (Tr.owe True (Tr.ret (D.int .i64 (fst0 [ncmp (↑(List.length a):Int) (↑(List.length a'):Int),Lib.compareBytes s s',c,ncmp n n'])) []))))))) (Tr.owe True (Tr.owe True (Tr.owe (CallL Tryz.prog (D.func (Fn.func 52) [] []) [D.slice a e,D.slice a' e',D.func (Fn.func 24) [] []] [] fun r0 ob0=>r0=D.int .i64 c/\ob0=[]) (Tr.owe True (Tr.owe True (Tr.ret (D.int .i64 (fst0 [ncmp (↑(List.length a):Int) (↑(List.length a'):Int),Lib.compareBytes s s',c,ncmp n n'])) [])))))))))))
theorem PCo_eq (k n:Int) (s:List UInt8) (a:List (List D)) (k' n':Int) (s':List UInt8) (a':List (List D)) (c:Int) (e e':List (List D)):goT Tryz.prog (ctr cmpPT (asmQ (D.int .i64 c))) 0 (finF false 0 rs24) 2000 [Fr.sc sc24] { tm:=envOf 0 ([]++[D.agg [D.int .u8 k,D.int .i64 n,D.str s,D.slice a e],D.agg [D.int .u8 k',D.int .i64 n',D.str s',D.slice a' e']]++[]),ob:=[] }=PCo k n s a k' n' s' a' c e e':=by kernel_rfl
def cellsE:Tm->List (List D)->List D
 | .mk k n s l,e=>[.int .u8 (k:Int),.int .i64 n,.str s,.slice (Tm.cellsL l) e]
theorem cellsE_nil (x:Tm):cellsE x []=x.cells:=by cases x; rfl
theorem compX_ok: ∀ (x y:Tm) (e e':List (List D)),x.wf 281474976710656->y.wf 281474976710656->CallL Tryz.prog (.func (.func 24) [] []) [.agg (cellsE x e),.agg (cellsE y e')] [] fun r ob=>r= .int .i64 (x.cmp y)/\ob=[]
 | .mk k n s l,.mk k' n' s' l',e,e',hx,hy=>by
  simp only[Tm.wf] at hx hy
  obtain⟨hk,hn1,hn2,hs,hl,hw⟩:=hx
  obtain⟨hk',hn1',hn2',hs',hl',hw'⟩:=hy
  have hC:=cf_ok e e' l l' hl hl' fun x hx y hy=>by
   have:=compX_ok x y [] [] (wf_get hw hx) (wf_get hw' hy)
   rw[cellsE_nil,cellsE_nil] at this
   exact this
  refine CallL.tree hdraw fp24 (ctr_ok cmpPT_ok (asmQ_ok (.int .i64 (Tm.cmpL l l')))) (PCo_eq k n s (Tm.cellsL l) k' n' s' (Tm.cellsL l') (Tm.cmpL l l') e e') ?_
  unfold PCo
  simp only[SS,cellsL_length,Tm.cmp,fst0]
  have e1:((k:Int)=1)=(k=1):=propext (by omega)
  simp only[e1]
  refine⟨by omega,by omega,fun h=>by rw[if_pos h],fun h=>⟨fun h2=>⟨fun h3=> ?_,fun h3=>⟨hC, ?_⟩⟩,fun h2=>⟨hC, ?_⟩⟩⟩
  ·subst h3
   have h':ncmp (rkI 1) (rkI k')=0:=h
   simp[h',h2]
  ·simp[h,h2,h3]
  ·simp[h,h2]
termination_by x=>SizeOf.sizeOf x
decreasing_by
 have:=List.sizeOf_lt_of_mem hx
 simp only[Tm.mk.sizeOf_spec]
 omega
theorem compC_ok (x y:Tm) (hx:x.wf 281474976710656) (hy:y.wf 281474976710656):CmpC x y:=by
 have:=compX_ok x y [] [] hx hy
 rw[cellsE_nil,cellsE_nil] at this
 exact this
end Go.Proofs.YtfoklncmfoogcaaGreatDoor
