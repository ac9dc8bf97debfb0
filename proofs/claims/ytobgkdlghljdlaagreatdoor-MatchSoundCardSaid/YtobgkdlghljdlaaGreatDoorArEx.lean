/- Own work: a layer over the kit: plain data,a walk over it,its soundness. -/
import Derived.Test.YtobgkdlghljdlaaGreatDoorArOpB
import Derived.Test.YtobgkdlghljdlaaGreatDoorArA
import Derived.Test.YtobgkdlghljdlaaGreatDoorShelfN
import Derived.Test.YtobgkdlghljdlaaGreatDoorSx10
set_option linter.unusedSectionVars false
set_option linter.unusedVariables false
set_option linter.unusedSimpArgs false
set_option linter.deprecated false
set_option maxRecDepth 100000
/- arith.copied,expand,Eval: their trees. -/
namespace Go.Proofs.YtobgkdlghljdlaaGreatDoor
open Go.Sx
theorem PCop_eq (k n:Int) (s:LU) (a:LD):goT Tryz.prog (ctr libT) 0 (finF true 0 rs49) 2000 [Fr.sc sc49] { tm:=envOf 0 [dA (tC k n s a)],ob:=[] }=(Jm (cut sc49 0) { tm:=[(1,dP 0 0),(2,dP 1 0),(9,dL a []),(10,dI (↑(List.length a):Int)),(11,dI (0:Int))],ob:=[(0,oC [dU k,dI n,dS s,D.nils]),(1,oC [dU (0:Int),dI (0:Int),dS [],D.nils])] }:Tr):=by kernel_rfl
def hdCoA (k n:Int) (s:LU) (a:LD) (m i:Int):St:=⟨[(1,.ptr 0 0),(2,.ptr 1 0),(9,.slice a []),(10,.int .i64 m),(11,.int .i64 i)],[(0,.cells [.int .u8 k,.int .i64 n,.str s,.nils]),(1,.cells [.int .u8 0,.int .i64 0,.str [],.nils])]⟩
def hdCoB (k n:Int) (s:LU) (a row:LD) (m i:Int):St:=⟨[(1,.ptr 0 0),(2,.ptr 1 0),(9,.slice a []),(10,.int .i64 m),(11,.int .i64 i)],[(0,.cells [.int .u8 k,.int .i64 n,.str s,.vec 2]),(1,.cells [.int .u8 0,.int .i64 0,.str [],.nils]),(2,.arr true 4 35 row)]⟩
theorem PCoA_eq (k n:Int) (s:LU) (a:LD) (m:Int) (i:Nat) (kx nx:Int) (sx:LU) (ax:LD):goT Tryz.prog (ctr (asmP (dA (tC kx nx sx ax))) qnone (eOne (tC kx nx sx ax))) 0 (finF true 0 rs49) 2000 (cut sc49 0) (hdCoA k n s a m (↑i:Int))=(brT (decide ((↑i:Int)<m)) (Ow ((0:Int)<=(↑i:Int)/\a[Int.toNat (↑i:Int)]? = some (tC kx nx sx ax)) (Ow (FK 49 [dA (tC kx nx sx ax)] (dA (tC kx nx sx ax))) (Ow (allLen 4 [(tC kx nx sx ax)]/\1<=1073741824) (Ow ((-9223372036854775808:Int)<=(↑i:Int)+(1:Int)/\(↑i:Int)+(1:Int)<=(9223372036854775807:Int)) (Jm (cut sc49 0) { tm:=[(1,dP 0 0),(2,dP 1 0),(9,dL a []),(10,dI m),(11,dI ((↑i:Int)+(1:Int)))],ob:=[(0,oC [dU k,dI n,dS s,dV 2]),(1,oC [dU (0:Int),dI (0:Int),dS [],D.nils]),(2,oR true 4 35 [(tC kx nx sx ax)])] }))))) (Rt (dA (tC k n s [])) []):Tr):=by kernel_rfl
theorem PCoB_eq (k n:Int) (s:LU) (a row:LD) (m:Int) (i:Nat) (kx nx:Int) (sx:LU) (ax:LD):goT Tryz.prog (ctr (asmP (dA (tC kx nx sx ax))) qnone (eOne (tC kx nx sx ax))) 0 (finF true 0 rs49) 2000 (cut sc49 0) (hdCoB k n s a row m (↑i:Int))=(brT (decide ((↑i:Int)<m)) (Ow ((0:Int)<=(↑i:Int)/\a[Int.toNat (↑i:Int)]? = some (tC kx nx sx ax)) (Ow (FK 49 [dA (tC kx nx sx ax)] (dA (tC kx nx sx ax))) (Ow (allLen 4 [(tC kx nx sx ax)]/\List.length row+1<=1073741824) (Ow ((-9223372036854775808:Int)<=(↑i:Int)+(1:Int)/\(↑i:Int)+(1:Int)<=(9223372036854775807:Int)) (Jm (cut sc49 0) { tm:=[(1,dP 0 0),(2,dP 1 0),(9,dL a []),(10,dI m),(11,dI ((↑i:Int)+(1:Int)))],ob:=[(0,oC [dU k,dI n,dS s,dV 2]),(1,oC [dU (0:Int),dI (0:Int),dS [],D.nils]),(2,oR true 4 35 (row++[(tC kx nx sx ax)]))] }))))) (Rt (dA (tC k n s row)) []):Tr):=by kernel_rfl
def exD (b:Bool) (es:LD):D:=match b with
 | true=> .own 4 35 es
 | false=> .slice [] []
theorem PExL_eq (k n:Int) (s:LU):goT Tryz.prog (ctr (asmP (dA (tC k n s [])))) 0 (finF true 0 rs48) 2000 [Fr.sc sc48] { tm:=envOf 0 [dA (tC k n s [])],ob:=[] }=(Ow (FK 49 [dA (tC k n s [])] (dA (tC k n s []))) (Rt (D.own 4 35 [(tC k n s [])]) []):Tr):=by kernel_rfl
theorem PExp_eq (k n:Int) (s:LU) (x:List D) (a:LD):goT Tryz.prog (ctr libT) 0 (finF true 0 rs48) 2000 [Fr.sc sc48] { tm:=envOf 0 [dA (tC k n s (x::a))],ob:=[] }=(Jm (cut sc48 0) { tm:=[(1,dP 0 0),(3,dV 1),(14,dL (x::a) []),(15,dI (↑(List.length (x::a)):Int)),(16,dI (0:Int))],ob:=[(0,oC [dU k,dI n,dS s,dL (x::a) []]),(1,oR true 1 22 [])] }:Tr):=by kernel_rfl
def hdEx (k n:Int) (s:LU) (a row:LD) (m i:Int):St:=⟨[(1,.ptr 0 0),(3,.vec 1),(14,.slice a []),(15,.int .i64 m),(16,.int .i64 i)],[(0,.cells [.int .u8 k,.int .i64 n,.str s,.slice a []]),(1,.arr true 1 22 row)]⟩
end Go.Proofs.YtobgkdlghljdlaaGreatDoor
/- arith.copied,functions,expand,Eval: proved. -/
namespace Go.Proofs.YtobgkdlghljdlaaGreatDoor
open Go.Sx
def CopP (x:Tm):Prop:=FK 49 [.agg x.cells] (.agg x.cells)
theorem cop_at (k n:Int) (s:LU) (l:List Tm) (hl:l.length<=1000) (H: ∀ x∈l,CopP x): ∀ (m i:Nat),l.length-i=m->i<=l.length →
  At Tryz.prog 0 (cut sc49 0) (hdCoB k n s (Tm.cellsL l) (Tm.cellsL (l.take i)) l.length i) (FinQ true 0 rs49 fun r _=>r= .agg [.int .u8 k,.int .i64 n,.str s,.slice (Tm.cellsL l) []]):=by
 intro m
 induction m with
 | zero =>
  intro i hm hi
  refine At.tree (ctr_ok (asmP_ok _) qnone_ok) (PCoB_eq k n s (Tm.cellsL l) (Tm.cellsL (l.take i)) l.length i 0 0 [] []) ?_
  rw[List.take_of_length_le (show l.length<=i by omega)]
  simp only[SS]
  exact⟨fun h=>by omega,fun _=>trivial⟩
 | succ m ih =>
  intro i hm hi
  have h1:i<l.length:=by omega
  have hx:=cellsL_get h1
  have hC:=H _ (List.getElem_mem h1)
  have hI:=ih (i+1) (by omega) (by omega)
  have ht:Tm.cellsL (l.take (i+1))=Tm.cellsL (l.take i)++[l[i].cells]:=by
   rw[List.take_add_one,List.getElem?_eq_getElem h1,cellsL_app]; rfl
  rw[ht] at hI
  unfold CopP at hC
  generalize l[i]=x at hx hC hI
  obtain⟨kx,nx,sx,ax⟩:=x
  refine At.tree (ctr_ok (asmP_ok _) qnone_ok) (PCoB_eq k n s (Tm.cellsL l) (Tm.cellsL (l.take i)) l.length i kx nx sx (Tm.cellsL ax)) ?_
  simp only[SS,cellsL_length,List.length_take]
  exact⟨fun _=>⟨⟨by omega,hx⟩,hC,⟨by simp[allLen],by omega⟩,by omega,hI⟩,fun h=>by omega⟩
theorem cop_ok: ∀ x:Tm,x.few 1000->CopP x
 | .mk k n s l,hx=>by
  simp only[Tm.few] at hx
  obtain⟨hl,hw⟩:=hx
  have H: ∀ x∈l,CopP x:=fun x hx=>cop_ok x (fewL_all.1 hw x hx)
  have hA:=cop_at k n s l hl H _ 1 rfl
  unfold CopP
  refine FnOK.tree hdraw fp49 (ctr_ok libT_ok qnone_ok) (PCop_eq k n s (Tm.cellsL l)) ?_
  rw[ok_jmp,cellsL_length]
  match l,hl,H,hA with
  | [],_,_,_ =>
   refine At.tree (ctr_ok (asmP_ok _) qnone_ok) (PCoA_eq k n s [] 0 0 0 0 [] []) ?_
   rw[ok_br]
   refine⟨fun h=> ?_,fun _=>rfl⟩
   have:=of_decide_eq_true h; omega
  | .mk kx nx sx ax::r,hl,H,hA =>
   have hC:=H _ (List.mem_cons_self ..)
   have hI:=hA (by simp)
   unfold CopP at hC
   refine At.tree (ctr_ok (asmP_ok _) qnone_ok) (PCoA_eq k n s (Tm.cellsL (.mk kx nx sx ax::r)) (r.length+1:Nat) 0 kx nx sx (Tm.cellsL ax)) ?_
   simp only[SS]
   exact⟨fun _=>⟨⟨by omega,rfl⟩,hC,⟨by simp[allLen],by omega⟩,by omega,hI⟩,fun h=>by omega⟩
termination_by x=>SizeOf.sizeOf x
decreasing_by
 have:=List.sizeOf_lt_of_mem hx
 simp only[Tm.mk.sizeOf_spec]
 omega
def empI:List (List Tm)->Int->Int
 | [],_=> -1
 | a::r,i=>if a.isEmpty=true then i else empI r (i+1)
theorem empI_ge: ∀ (l:List (List Tm)) (i:Int),0<=i->decide (0<=empI l i)=l.any List.isEmpty
 | [],i,_=>by simp[empI]
 | a::r,i,hi=>by
  have ih:=empI_ge r (i+1) (by omega)
  by_cases hf:a.isEmpty=true
  ·simp[empI,hf,hi]
  ·rw[empI,if_neg hf,List.any_cons,ih,Bool.eq_false_iff.2 hf,Bool.false_or]
theorem CFe_eq (es:LD):goT Tryz.prog (ctr libT) 0 (finF false 0 rs122) 2000 [Fr.sc sc122] { tm:=envOf 0 ([]++[dL es []]++[]),ob:=[] }=(Rt (dB (decide ((↑(List.length es):Int)=(0:Int)))) []:Tr):=by kernel_rfl
theorem fe_ok (l:List Tm):CF 122 [.slice (Tm.cellsL l) []] [] fun r ob=>r= .bool l.isEmpty/\ob=[]:=by
 refine CallL.tree hdraw fp122 (ctr_ok libT_ok qnone_ok) (CFe_eq (Tm.cellsL l)) ?_
 have e:decide (((Tm.cellsL l).length:Int)=0)=l.isEmpty:=by
  rw[cellsL_length,Bool.eq_iff_iff,decide_eq_true_eq,List.isEmpty_iff]
  rw[<- List.length_eq_zero_iff]; omega
 rw[ok_ret,e]
 exact⟨rfl,rfl⟩
theorem PIxE_eq (es ext:LD):goT Tryz.prog (ctr libT) 0 (finF false 0 rs148) 2000 [Fr.sc sc148] { tm:=envOf 0 ([]++[dL es ext,dF 122 [] []]++[]),ob:=[] }=(Jm (cut sc148 0) { tm:=[(0,dL es ext),(1,dF 122 [] []),(7,dI (↑(List.length es):Int)),(8,dI (0:Int))],ob:=[] }:Tr):=by kernel_rfl
def hdIxE (es ext:LD) (n i:Int):St:=⟨[(0,.slice es ext),(1,.func (.func 122) [] []),(7,.int .i64 n),(8,.int .i64 i)],[]⟩
theorem PIxE2_eq (es ext:LD) (m i:Int) (xs:LD) (b:Bool):goT Tryz.prog (ctr libT (asmQ (dB b)) (eOne [dL xs []])) 0 (finF false 0 rs148) 2000 (cut sc148 0) (hdIxE es ext m i)=(brT (decide (i<m)) (Ow ((0:Int)<=i/\es[Int.toNat i]? = some [dL xs []]) (Ow (CF 122 [dL xs []] [] fun r0 ob0=>r0=dB b/\ob0=[]) (brT b (Rt (dI i) []) (Ow ((-9223372036854775808:Int)<=i+(1:Int)/\i+(1:Int)<=(9223372036854775807:Int)) (Jm (cut sc148 0) { tm:=[(0,dL es ext),(1,dF 122 [] []),(7,dI m),(8,dI (i+(1:Int)))],ob:=[] }))))) (Rt (dI (-1:Int)) []):Tr):=by kernel_rfl
theorem PCtE_eq (es ext:LD) (r:Int):goT Tryz.prog (ctr libT (asmO (dI r) [])) 0 (finF false 0 rs121) 2000 [Fr.sc sc121] { tm:=envOf 0 ([]++[dL es ext,dF 122 [] []]++[]),ob:=[] }=(Ow (CF 148 [dL es ext,dF 122 [] []] [] fun r0 ob0=>r0=dI r/\ob0=[]) (Rt (dB (decide ((0:Int)<=r))) []):Tr):=by kernel_rfl
theorem ixE_at (ext:LD) (L:List (List Tm)) (hl:L.length<=1000): ∀ (m i:Nat),L.length-i=m->i<=L.length →
  At Tryz.prog 0 (cut sc148 0) (hdIxE (partD L) ext L.length i) (FinQ false 0 rs148 fun r ob=>r= .int .i64 (empI (L.drop i) i)/\ob=[]):=by
 intro m
 induction m with
 | zero =>
  intro i hm hi
  refine At.tree (ctr_ok libT_ok (asmQ_ok _)) (PIxE2_eq (partD L) ext L.length i [] true) ?_
  rw[List.drop_eq_nil_of_le (by omega)]
  simp only[SS]
  exact⟨fun h=>by omega,fun _=>rfl⟩
 | succ m ih =>
  intro i hm hi
  have h1:i<L.length:=by omega
  have hI:=ih (i+1) (by omega) (by omega)
  rw[drop_cons h1]
  simp only[empI]
  refine At.tree (ctr_ok libT_ok (asmQ_ok _)) (PIxE2_eq (partD L) ext L.length i (Tm.cellsL L[i]) L[i].isEmpty) ?_
  simp only[SS]
  refine⟨fun _=>⟨⟨by omega,partD_get h1⟩,fe_ok _,fun h=>by rw[if_pos h],fun h=>⟨by omega, ?_⟩⟩,fun h=>by omega⟩
  rw[if_neg (by simp[h])]
  exact hI
theorem ctE_ok (ext:LD) (L:List (List Tm)) (hl:L.length<=1000):CF 121 [.slice (partD L) ext,.func (.func 122) [] []] [] fun r ob=>r= .bool (L.any List.isEmpty)/\ob=[]:=by
 have hI:CF 148 [.slice (partD L) ext,.func (.func 122) [] []] [] fun r ob=>r= .int .i64 (empI L 0)/\ob=[]:=by
  refine CallL.tree hdraw fp148 (ctr_ok libT_ok qnone_ok) (PIxE_eq (partD L) ext) ?_
  simp only[SS,partD_len]
  exact ixE_at ext L hl _ 0 rfl (Nat.zero_le _)
 refine CallL.tree hdraw fp121 (ctr_ok libT_ok (asmO_ok _ _)) (PCtE_eq (partD L) ext (empI L 0)) ?_
 simp only[SS]
 exact⟨hI,empI_ge L 0 (by decide)⟩
def prdL (L:List (List Tm)) (i:Nat):Nat:=((L.take i).map List.length).prod
theorem prdL_succ {L:List (List Tm)} {i:Nat} (h:i<L.length):prdL L (i+1)=prdL L i*L[i].length:=by
 unfold prdL
 rw[List.take_add_one,List.getElem?_eq_getElem h,Option.toList_some,List.map_append,List.prod_append]
 simp
theorem rwsT_ok (s:LU) (L:List (List Tm)) (hL:L.length<=1000) (hl: ∀ l∈L,l≠[]/\l.length<=1000) (h0:L≠[]) (hz:(prodL L).length<=1000) :
  CallL Tryz.prog (.func (.func 149) [] [.ptr 0 0]) [.yld 1] (obTA s (partD L)) fun r ob=>r= .tuple []/\ob=obTB s (partD L) (Tm.cellsL ((prodL L).map (fun r=> .mk 4 0 s r))):=by
 have hf:=funs_prod s L (List.replicate L.length (.mk 0 0 [] [])) (by simp)
 have hF:=(filAB s L (by omega) (fun l hx=>⟨(hl l hx).1,by have:=(hl l hx).2; omega⟩) h0 _ 0 rfl (Nat.zero_le _)).1 (List.replicate L.length (.mk 0 0 [] [])) (by simp) (by rw[List.drop_zero,hf]; simpa using hz)
 unfold FilA at hF
 rw[List.drop_zero,hf] at hF
 have e:Tm.cellsL (List.replicate L.length (.mk 0 0 [] []))=List.replicate L.length [.int .u8 0,.int .i64 0,.str [],.slice [] []]:=by
  rw[cellsL_map,List.map_replicate]; rfl
 rw[e] at hF
 refine CallL.tree hdraw fp149 (ctr_ok libT_ok (asmA_ok _ _)) (FR1_eq s (partD L) (Tm.cellsL (fillS (outF s) L 0 (List.replicate L.length (.mk 0 0 [] []),[])).1) (Tm.cellsL ((prodL L).map (fun r=> .mk 4 0 s r)))) ?_
 simp only[SS,partD_len]
 exact⟨⟨by omega,by omega,by omega⟩,hF,rfl⟩
theorem fn3_at (s:LU) (L:List (List Tm)) (hL:L.length<=1000) (hl: ∀ l∈L,l≠[]/\l.length<=1000) (h0:L≠[]) (hz:(prodL L).length<=1000) :
  At Tryz.prog 0 (frg sc89 3) ⟨[(1,.slice (partD L) []),(2,.ptr 0 0),(4,.ptr 1 0)],[(0,.cells [.str s]),(1,.cells [.nils])]⟩ (FinQ true 0 rs89 fun r _=>r= .own 4 35 (Tm.cellsL ((prodL L).map (fun r=> .mk 4 0 s r)))):=by
 refine At.tree (ctr_ok libT_ok (QT.or_ok rowsT_ok (asmA_ok _ _))) (PFn3_eq s (partD L) [] (Tm.cellsL ((prodL L).map (fun r=> .mk 4 0 s r)))) ?_
 rw[ok_owe,ok_owe,ok_jmp]
 refine⟨trivial,rwsT_ok s L hL hl h0 hz, ?_⟩
 refine At.tree (ctr_ok libT_ok qnone_ok) (PFn4_eq (Tm.cellsL ((prodL L).map (fun r=> .mk 4 0 s r)))) ?_
 exact rfl
theorem fnl_at (s:LU) (L:List (List Tm)) (hL:L.length<=1000) (hl: ∀ l∈L,l≠[]/\l.length<=1000) (h0:L≠[]) (hz:(prodL L).length<=1000) (hp: ∀ i,i<=L.length->prdL L i<=1000): ∀ (m i:Nat),L.length-i=m->i<=L.length →
  At Tryz.prog 0 (cut sc89 0) (hdFn s (partD L) [] (prdL L i) L.length i) (FinQ true 0 rs89 fun r _=>r= .own 4 35 (Tm.cellsL ((prodL L).map (fun r=> .mk 4 0 s r)))):=by
 intro m
 induction m with
 | zero =>
  intro i hm hi
  refine At.tree (ctr_ok limP_ok qnone_ok) (PFnL_eq s (partD L) [] (prdL L i) L.length i []) ?_
  simp only[SS]
  exact⟨fun h=>by omega,fun _=>fn3_at s L hL hl h0 hz⟩
 | succ m ih =>
  intro i hm hi
  have h1:i<L.length:=by omega
  have hI:=ih (i+1) (by omega) (by omega)
  have h2:=hp (i+1) (by omega)
  have e:((prdL L (i+1):Nat):Int)=(prdL L i:Int)*(L[i].length:Int):=by rw[prdL_succ h1]; exact Int.natCast_mul _ _
  refine At.tree (ctr_ok limP_ok qnone_ok) (PFnL_eq s (partD L) [] (prdL L i) L.length i (Tm.cellsL L[i])) ?_
  rw[cellsL_length,<- e]
  simp only[SS]
  exact⟨fun _=>⟨⟨by omega,partD_get h1⟩,by omega,by omega,by omega,hI⟩,fun h=>by omega⟩
theorem fun_ok (s:LU) (L:List (List Tm)) (hL:L.length<=1000) (hl: ∀ l∈L,l.length<=1000) (h0:L≠[]) (hz:(prodL L).length<=1000) (hp: ∀ i,i<=L.length->prdL L i<=1000) :
  FK 89 [.str s,.slice (partD L) []] (exD (!(L.any List.isEmpty)) (Tm.cellsL ((prodL L).map (fun r=> .mk 4 0 s r)))):=by
 refine FnOK.tree hdraw fp89 (ctr_ok libT_ok qnone_ok) (PFn_eq s (partD L) []) ?_
 rw[ok_jmp]
 refine At.tree (ctr_ok libT_ok (asmA_ok _ _)) (PFn0_eq s (partD L) [] (L.any List.isEmpty)) ?_
 rw[ok_owe,ok_br,ok_ret,ok_jmp]
 refine⟨ctE_ok [] L hL,fun h=>by rw[h]; rfl,fun h=> ?_⟩
 rw[h]
 have hne: ∀ l∈L,l≠[]/\l.length<=1000:=fun l hx=>⟨fun e=>by
  have:=List.any_eq_false.1 h l hx
  rw[e] at this
  exact this rfl,hl l hx⟩
 refine At.tree (ctr_ok libT_ok qnone_ok) (PFn1_eq s (partD L) []) ?_
 rw[ok_jmp]
 refine At.tree (ctr_ok libT_ok qnone_ok) (PFn2_eq s (partD L) []) ?_
 rw[ok_jmp,partD_len]
 exact fnl_at s L hL hne h0 hz hp _ 0 rfl (Nat.zero_le _)
end Go.Proofs.YtobgkdlghljdlaaGreatDoor
/- slices.SortFunc,slices.CompactFunc,arith.set,at numbers. -/
namespace Go.Proofs.YtobgkdlghljdlaaGreatDoor
open Go.Sx Go.RowKit
theorem compN (x y:Int):CF 58 [.agg [.int .u8 1,.int .i64 x,.str [],.slice [] []],.agg [.int .u8 1,.int .i64 y,.str [],.slice [] []]] [] fun r ob=>r= .int .i64 (ncmp x y)/\ob=[]:=by
 have hC:=cf_ok [] [] [] [] (by simp) (by simp) (fun x hx=>by cases hx)
 refine CallL.tree hdraw fp58 (ctr_ok cmpPT_ok (asmQ_ok (.int .i64 0))) (PCo_eq 1 x [] [] 1 y [] [] 0 [] []) ?_
 simp only[SS,fst0]
 have h1:Lib.compareBytes [] []=0:=by simp[Lib.compareBytes]
 have h2:ncmp 0 0=0:=rfl
 have hC':CF 97 [.slice [] [],.slice [] [],.func (.func 58) [] []] [] fun r ob=>r= .int .i64 0/\ob=[]:=by simpa [Tm.cmpL,Tm.cellsL] using hC
 refine⟨by omega,by omega,fun h=>absurd rfl h,fun _=>⟨fun _ h=>absurd trivial h,fun h=>⟨hC', ?_⟩⟩⟩
 simp[h1,h2,h]
theorem sort_ok (q:List Int) (hnd:q.Nodup) (hne:q≠[]) (hlt:q.length<4611686018427387904):CF 146 [.vec 0,.func (.func 58) [] []] [(0,.arr false 4 35 (numC q))]
  fun r ob=>r= .tuple []/\ob=[(0,.arr false 4 35 (numC (sortI q)))] :=
 CallL.sortK (by kernel_rfl) (by kernel_rfl) (fun blk cap d w hc hH hb hs=>Go.Proofs.AnyQ.slices_SortFunc Tryz.sortL 4 Tryz.isAgg35 Tryz.sizeOf35 encN encN_len encN_one cfN swoN 58 #[] blk 0 cap d w (enters_of Tryz.func58 (by kernel_rfl) rfl) hc hH hb hs) compN _ q hnd hne hlt
theorem PEqC_eq (k n:Int) (s:LU) (a:LD) (k' n':Int) (s':LU) (a':LD) (c:Int):goT Tryz.prog (ctr (asmP (dI c))) 0 (finF false 0 rs27) 2000 [Fr.sc sc27] { tm:=envOf 0 ([]++[dA [dU k,dI n,dS s,dL a []],dA [dU k',dI n',dS s',dL a' []]]++[]),ob:=[] }=(Ow (FK 58 [dA [dU k,dI n,dS s,dL a []],dA [dU k',dI n',dS s',dL a' []]] (dI c)) (Rt (dB (decide (c=(0:Int)))) []):Tr):=by kernel_rfl
theorem PCpf_eq (es:LD):goT Tryz.prog (ctr libT) 1 (finF false 1 rs147) 2000 [Fr.sc sc147] { tm:=envOf 0 ([]++[dV 0,dF 27 [] []]++[]),ob:=[(0,oR false 4 35 es)] }=(brT (decide ((↑(List.length es):Int)<(2:Int))) (Rt (dV 0) [(0,oR false 4 35 es)]) (Jm (cut sc147 0) { tm:=[(0,dV 0),(1,dF 27 [] []),(5,dI (1:Int))],ob:=[(0,oR false 4 35 es)] }):Tr):=by kernel_rfl
def hdCp (es:LD) (i:Int):St:=⟨[(0,.vec 0),(1,.func (.func 27) [] []),(5,.int .i64 i)],[(0,.arr false 4 35 es)]⟩
theorem PCp2_eq (es:LD) (i:Nat) (a b:Int):goT Tryz.prog (ctr libT (asmQ (dB false)) (eTwo 22 [dU (1:Int),dI a,dS [],dL [] []] [dU (1:Int),dI b,dS [],dL [] []])) 1 (finF false 1 rs147) 2000 (cut sc147 0) (hdCp es (↑i:Int))=(brT (decide ((↑i:Int)<(↑(List.length es):Int))) (Ow ((0:Int)<=(↑i:Int)/\(↑i:Int)<(↑(List.length es):Int)) (Ow (es[Int.toNat (↑i:Int)]? = some [dU (1:Int),dI a,dS [],dL [] []]) (Ow ((-9223372036854775808:Int)<=(↑i:Int)-(1:Int)/\(↑i:Int)-(1:Int)<=(9223372036854775807:Int)) (Ow ((0:Int)<=(↑i:Int)-(1:Int)/\(↑i:Int)-(1:Int)<(↑(List.length es):Int)) (Ow (es[Int.toNat ((↑i:Int)-(1:Int))]? = some [dU (1:Int),dI b,dS [],dL [] []]) (Ow (CF 27 [dA [dU (1:Int),dI a,dS [],dL [] []],dA [dU (1:Int),dI b,dS [],dL [] []]] [] fun r0 ob0=>r0=dB false/\ob0=[]) (Ow ((-9223372036854775808:Int)<=(↑i:Int)+(1:Int)/\(↑i:Int)+(1:Int)<=(9223372036854775807:Int)) (Jm (cut sc147 0) { tm:=[(0,dV 0),(1,dF 27 [] []),(5,dI ((↑i:Int)+(1:Int)))],ob:=[(0,oR false 4 35 es)] })))))))) (Rt (dV 0) [(0,oR false 4 35 es)]):Tr):=by kernel_rfl
theorem PSet_eq (es es':LD):goT Tryz.prog { F:=fun x=>limP,C:=fun t=>asmO (if t=6 then dV 0 else D.tuple []) [(0,oR false 4 35 es')],E:=noE } 1 (finF false 1 rs120) 2000 [Fr.sc sc120] { tm:=envOf 0 ([]++[dV 0]++[]),ob:=[(0,oR false 4 35 es)] }=(Ow (CF 146 [dV 0,dF 58 [] []] [(0,oR false 4 35 es)] fun r0 ob0=>r0=D.tuple []/\ob0=[(0,oR false 4 35 es')]) (Ow (CF 147 [dV 0,dF 27 [] []] [(0,oR false 4 35 es')] fun r0 ob0=>r0=dV 0/\ob0=[(0,oR false 4 35 es')]) (Ow ((↑(List.length es'):Int)<=(1000:Int)) (Rt (dV 0) [(0,oR false 4 35 es')]))):Tr):=by kernel_rfl
theorem eqN (x y:Int) (h:x≠y):CF 27 [.agg [.int .u8 1,.int .i64 x,.str [],.slice [] []],.agg [.int .u8 1,.int .i64 y,.str [],.slice [] []]] [] fun r ob=>r= .bool false/\ob=[]:=by
 have hC:FK 58 [.agg [.int .u8 1,.int .i64 x,.str [],.slice [] []],.agg [.int .u8 1,.int .i64 y,.str [],.slice [] []]] (.int .i64 (ncmp x y)) :=
  FnOK.of_call pureC ((compN x y).mono fun r ob ⟨h1,h2⟩=>by subst h1; subst h2; exact .inr ⟨rfl,rfl⟩)
 refine CallL.tree hdraw fp27 (ctr_ok (asmP_ok (.int .i64 (ncmp x y))) qnone_ok) (PEqC_eq 1 x [] [] 1 y [] [] (ncmp x y)) ?_
 simp only[SS]
 refine⟨hC, ?_⟩
 have:ncmp x y≠0:=by unfold ncmp; split <;> (try split) <;> omega
 simp[this]
theorem numC_get {l:List Int} {i:Nat} (h:i<l.length):(numC l)[i]? = some [.int .u8 1,.int .i64 l[i],.str [],.slice [] []]:=by simp[numC,h]
theorem cp_at (l:List Int) (hl:l.length<=1000) (hs:l.Pairwise (· < ·)): ∀ (m i:Nat),l.length-i=m->i<=l.length->1<=i →
  At Tryz.prog 1 (cut sc147 0) (hdCp (numC l) i) (FinQ false 1 rs147 fun r ob=>r= .vec 0/\ob=[(0,.arr false 4 35 (numC l))]):=by
 intro m
 induction m with
 | zero =>
  intro i hm hi h1
  refine At.tree (ctr_ok libT_ok (asmQ_ok (.bool false))) (PCp2_eq (numC l) i 0 0) ?_
  simp only[SS,numC_len]
  exact⟨fun h=>by omega,fun _=>trivial⟩
 | succ m ih =>
  intro i hm hi h1
  have h2:i<l.length:=by omega
  have hI:=ih (i+1) (by omega) (by omega) (by omega)
  have hE:=eqN l[i] l[i-1] (by
   have:=List.pairwise_iff_getElem.1 hs (i-1) i (by omega) h2 (by omega)
   omega)
  have hg:(numC l)[((i:Int)-1).toNat]? = some [.int .u8 1,.int .i64 l[i-1],.str [],.slice [] []]:=by
   rw[show ((i:Int)-1).toNat=i-1 by omega]; exact numC_get (by omega)
  refine At.tree (ctr_ok libT_ok (asmQ_ok (.bool false))) (PCp2_eq (numC l) i l[i] l[i-1]) ?_
  simp only[SS,numC_len]
  exact⟨fun _=>⟨by omega,numC_get h2,by omega,by omega,hg,hE,by omega,hI⟩,fun h=>by omega⟩
theorem cpt_ok (l:List Int) (hl:l.length<=1000) (hs:l.Pairwise (· < ·)):CF 147 [.vec 0,.func (.func 27) [] []] [(0,.arr false 4 35 (numC l))]
  fun r ob=>r= .vec 0/\ob=[(0,.arr false 4 35 (numC l))]:=by
 refine CallL.tree hdraw fp147 (ctr_ok libT_ok qnone_ok) (PCpf_eq (numC l)) ?_
 simp only[SS,numC_len]
 exact⟨fun _=>trivial,fun h=>cp_at l hl hs _ 1 rfl (by omega) (Nat.le_refl _)⟩
theorem setQ_ok (es:Nat->D) (ob':Obs):(⟨fun _=>limP,fun t=>asmO (es t) ob',noE⟩:Ctr).OK Tryz.prog:=⟨fun _=>limP_ok,fun t=>asmO_ok (es t) ob'⟩
theorem perm_nodup {q l:List Int} (h:q.Perm l) (hn:l.Nodup):q.Nodup:=h.nodup_iff.2 hn
theorem set_ok (q:List Int) (hnd:q.Nodup) (hl:q.length<=1000):SetC q (sortI q):=by
 by_cases hne:q=[]
 ·subst hne; exact set0
 ·refine CallL.frz ?_
  refine CallL.tree hdraw fp120 (setQ_ok _ _) (PSet_eq (numC q) (numC (sortI q))) ?_
  have hlen:=sortI_len hnd
  simp only[SS,numC_len,hlen]
  exact⟨sort_ok q hnd hne (by omega),cpt_ok _ (by omega) (sortI_lt q),by omega⟩
end Go.Proofs.YtobgkdlghljdlaaGreatDoor
/- slices.Min,slices.Max,arith.interval. -/
namespace Go.Proofs.YtobgkdlghljdlaaGreatDoor
open Go.Sx
theorem PMin_eq (es:LD) (x:Int):goT Tryz.prog (ctr libT qnone (eOne [dI x])) 0 (finF true 0 rs114) 2000 [Fr.sc sc114] { tm:=envOf 0 [dL es []],ob:=[] }=(brT (decide ((↑(List.length es):Int)<(1:Int))) (Ow (some (D.raw (Value.iface 9 (valV (dS [(115:UInt8),(108:UInt8),(105:UInt8),(99:UInt8),(101:UInt8),(115:UInt8),(46:UInt8),(77:UInt8),(105:UInt8),(110:UInt8),(58:UInt8),(32:UInt8),(101:UInt8),(109:UInt8),(112:UInt8),(116:UInt8),(121:UInt8),(32:UInt8),(108:UInt8),(105:UInt8),(115:UInt8),(116:UInt8)]))))=some (dI x)) Tr.bad) (Ow ((0:Int)<=(0:Int)/\es[0]? = some [dI x]) (Jm (cut sc114 0) { tm:=[(0,dL es []),(3,dI x),(4,dI (1:Int))],ob:=[] })):Tr):=by kernel_rfl
theorem PMax_eq (es:LD) (x:Int):goT Tryz.prog (ctr libT qnone (eOne [dI x])) 0 (finF true 0 rs115) 2000 [Fr.sc sc115] { tm:=envOf 0 [dL es []],ob:=[] }=(brT (decide ((↑(List.length es):Int)<(1:Int))) (Ow (some (D.raw (Value.iface 9 (valV (dS [(115:UInt8),(108:UInt8),(105:UInt8),(99:UInt8),(101:UInt8),(115:UInt8),(46:UInt8),(77:UInt8),(97:UInt8),(120:UInt8),(58:UInt8),(32:UInt8),(101:UInt8),(109:UInt8),(112:UInt8),(116:UInt8),(121:UInt8),(32:UInt8),(108:UInt8),(105:UInt8),(115:UInt8),(116:UInt8)]))))=some (dI x)) Tr.bad) (Ow ((0:Int)<=(0:Int)/\es[0]? = some [dI x]) (Jm (cut sc115 0) { tm:=[(0,dL es []),(3,dI x),(4,dI (1:Int))],ob:=[] })):Tr):=by kernel_rfl
def hdMm (es:LD) (m i:Int):St:=⟨[(0,.slice es []),(3,.int .i64 m),(4,.int .i64 i)],[]⟩
theorem PMin2_eq (es:LD) (m:Int) (i:Nat) (x r:Int):goT Tryz.prog (ctr libT qnone (eTwo 23 [dI r] [dI x])) 0 (finF true 0 rs114) 2000 (cut sc114 0) (hdMm es m (↑i:Int))=(brT (decide ((↑i:Int)<(↑(List.length es):Int))) (Ow ((0:Int)<=(↑i:Int)/\es[Int.toNat (↑i:Int)]? = some [dI x]) (Ow (IntKind.i64=IntKind.i64/\(if false=true then if x > m then x else m else if x<m then x else m)=r) (Ow ((-9223372036854775808:Int)<=(↑i:Int)+(1:Int)/\(↑i:Int)+(1:Int)<=(9223372036854775807:Int)) (Jm (cut sc114 0) { tm:=[(0,dL es []),(3,dI r),(4,dI ((↑i:Int)+(1:Int)))],ob:=[] })))) (Rt (dI m) []):Tr):=by kernel_rfl
theorem PMax2_eq (es:LD) (m:Int) (i:Nat) (x r:Int):goT Tryz.prog (ctr libT qnone (eTwo 23 [dI r] [dI x])) 0 (finF true 0 rs115) 2000 (cut sc115 0) (hdMm es m (↑i:Int))=(brT (decide ((↑i:Int)<(↑(List.length es):Int))) (Ow ((0:Int)<=(↑i:Int)/\es[Int.toNat (↑i:Int)]? = some [dI x]) (Ow (IntKind.i64=IntKind.i64/\(if true=true then if x > m then x else m else if x<m then x else m)=r) (Ow ((-9223372036854775808:Int)<=(↑i:Int)+(1:Int)/\(↑i:Int)+(1:Int)<=(9223372036854775807:Int)) (Jm (cut sc115 0) { tm:=[(0,dL es []),(3,dI r),(4,dI ((↑i:Int)+(1:Int)))],ob:=[] })))) (Rt (dI m) []):Tr):=by kernel_rfl
theorem PIv_eq (es fs:LD) (a b:Int):goT Tryz.prog { F:=fun t=>if t=17 then asmP (dI a) else if t=19 then asmP (dI b) else limP,C:=fun x=>qnone,E:=noE } 0 (finF true 0 rs86) 2000 [Fr.sc sc86] { tm:=envOf 0 [dL es [],dL fs []],ob:=[] }=(brT (decide ((↑(List.length es):Int)=(0:Int))) (Rt (D.own 4 35 []) []) (brT (decide ((↑(List.length fs):Int)=(0:Int))) (Rt (D.own 4 35 []) []) (Ow (FK 114 [dL es []] (dI a)) (Ow (FK 115 [dL fs []] (dI b)) (Ow ((-9223372036854775808:Int)<=b-a/\b-a<=(9223372036854775807:Int)) (Ow ((-9223372036854775808:Int)<=b-a+(1:Int)/\b-a+(1:Int)<=(9223372036854775807:Int)) (Ow (b-a+(1:Int)<=(1000:Int)) (Jm (cut sc86 0) { tm:=[(4,dV 0),(6,dI b),(7,dI a)],ob:=[(0,oR true 4 35 [])] }))))))):Tr):=by kernel_rfl
def hdIv (row:LD) (b n:Int):St:=⟨[(4,.vec 0),(6,.int .i64 b),(7,.int .i64 n)],[(0,.arr true 4 35 row)]⟩
theorem PIv2_eq (row:LD) (b n:Int):goT Tryz.prog (ctr (asmP (dA [dU (1:Int),dI n,dS [],dL [] []]))) 0 (finF true 0 rs86) 2000 (cut sc86 0) (hdIv row b n)=(brT (decide (n<=b)) (Ow (FK 117 [dI n] (dA [dU (1:Int),dI n,dS [],dL [] []])) (Ow (allLen 4 [[dU (1:Int),dI n,dS [],dL [] []]]/\List.length row+1<=1073741824) (Ow ((-9223372036854775808:Int)<=n+(1:Int)/\n+(1:Int)<=(9223372036854775807:Int)) (Jm (cut sc86 0) { tm:=[(4,dV 0),(6,dI b),(7,dI (n+(1:Int)))],ob:=[(0,oR true 4 35 (row++[[dU (1:Int),dI n,dS [],dL [] []]]))] })))) (Rt (D.own 4 35 row) []):Tr):=by kernel_rfl
theorem min_at (l:List Int) (hl:l.length<=4611686018427387904): ∀ (m i:Nat) (a:Int),l.length-i=m->i<=l.length →
  At Tryz.prog 0 (cut sc114 0) (hdMm (intC .i64 l) a i) (FinQ true 0 rs114 fun r _=>r= .int .i64 ((l.drop i).foldl min a)):=by
 intro m
 induction m with
 | zero =>
  intro i a hm hi
  refine At.tree (ctr_ok libT_ok qnone_ok) (PMin2_eq (intC .i64 l) a i 0 0) ?_
  rw[List.drop_eq_nil_of_le (by omega)]
  simp only[SS,intC_len]
  exact⟨fun h=>by omega,fun _=>rfl⟩
 | succ m ih =>
  intro i a hm hi
  have h1:i<l.length:=by omega
  have hI:=ih (i+1) (min a l[i]) (by omega) (by omega)
  rw[drop_cons h1,List.foldl_cons]
  refine At.tree (ctr_ok libT_ok qnone_ok) (PMin2_eq (intC .i64 l) a i l[i] (min a l[i])) ?_
  simp only[SS,intC_len]
  refine⟨fun _=>⟨⟨by omega,intC_get h1⟩, ?_,by omega,hI⟩,fun h=>by omega⟩
  first
   | (refine⟨trivial, ?_⟩; simp only[Bool.false_eq_true,if_false]; split <;> omega)
   | (simp only[Bool.false_eq_true,if_false]; split <;> omega)
   | (split <;> omega)
theorem max_at (l:List Int) (hl:l.length<=4611686018427387904): ∀ (m i:Nat) (a:Int),l.length-i=m->i<=l.length →
  At Tryz.prog 0 (cut sc115 0) (hdMm (intC .i64 l) a i) (FinQ true 0 rs115 fun r _=>r= .int .i64 ((l.drop i).foldl max a)):=by
 intro m
 induction m with
 | zero =>
  intro i a hm hi
  refine At.tree (ctr_ok libT_ok qnone_ok) (PMax2_eq (intC .i64 l) a i 0 0) ?_
  rw[List.drop_eq_nil_of_le (by omega)]
  simp only[SS,intC_len]
  exact⟨fun h=>by omega,fun _=>rfl⟩
 | succ m ih =>
  intro i a hm hi
  have h1:i<l.length:=by omega
  have hI:=ih (i+1) (max a l[i]) (by omega) (by omega)
  rw[drop_cons h1,List.foldl_cons]
  refine At.tree (ctr_ok libT_ok qnone_ok) (PMax2_eq (intC .i64 l) a i l[i] (max a l[i])) ?_
  simp only[SS,intC_len]
  refine⟨fun _=>⟨⟨by omega,intC_get h1⟩, ?_,by omega,hI⟩,fun h=>by omega⟩
  first
   | (refine⟨trivial, ?_⟩; simp only[if_true]; split <;> omega)
   | (simp only[if_true]; split <;> omega)
   | (split <;> omega)
theorem min_ok (l:List Int) (hne:l≠[]) (hl:l.length<=4611686018427387904):FK 114 [.slice (intC .i64 l) []] (.int .i64 (minI l)):=by
 match l,hne with
 | a::r,_ =>
  have hA:=min_at (a::r) hl _ 1 a rfl (by simp)
  refine FnOK.tree hdraw fp114 (ctr_ok libT_ok qnone_ok) (PMin_eq (intC .i64 (a::r)) a) ?_
  simp only[SS,intC_len,List.length_cons]
  refine⟨fun h=>by omega,fun _=>⟨rfl,hA⟩⟩
theorem max_ok (l:List Int) (hne:l≠[]) (hl:l.length<=4611686018427387904):FK 115 [.slice (intC .i64 l) []] (.int .i64 (maxI l)):=by
 match l,hne with
 | a::r,_ =>
  have hA:=max_at (a::r) hl _ 1 a rfl (by simp)
  refine FnOK.tree hdraw fp115 (ctr_ok libT_ok qnone_ok) (PMax_eq (intC .i64 (a::r)) a) ?_
  simp only[SS,intC_len,List.length_cons]
  refine⟨fun h=>by omega,fun _=>⟨rfl,hA⟩⟩
theorem iv_at (b:Int) (hb:b<9223372036854775807): ∀ (m:Nat) (a:Int) (row:List Int),(b-a+1).toNat=m->row.length+m<=1073741823-> -9223372036854775808<=a →
  At Tryz.prog 0 (cut sc86 0) (hdIv (numC row) b a) (FinQ true 0 rs86 fun r _=>r= .own 4 35 (numC (row++upto a m))):=by
 intro m
 induction m with
 | zero =>
  intro a row hm hr ha
  refine At.tree (ctr_ok (asmP_ok _) qnone_ok) (PIv2_eq (numC row) b a) ?_
  simp only[SS,upto,List.append_nil]
  exact⟨fun h=>by omega,fun _=>trivial⟩
 | succ m ih =>
  intro a row hm hr ha
  have hI:=ih (a+1) (row++[a]) (by omega) (by simp; omega) (by omega)
  have e:numC (row++[a])=numC row++[[.int .u8 1,.int .i64 a,.str [],.slice [] []]]:=by simp[numC]
  rw[e,List.append_assoc] at hI
  refine At.tree (ctr_ok (asmP_ok _) qnone_ok) (PIv2_eq (numC row) b a) ?_
  simp only[SS,upto,numC_len]
  exact⟨fun _=>⟨num_ok a,⟨by simp[allLen],by omega⟩,by omega,hI⟩,fun h=>by omega⟩
theorem ivQ_ok (a b:Int):(⟨fun t=>if t=17 then asmP (.int .i64 a) else if t=19 then asmP (.int .i64 b) else limP,fun _=>qnone,noE⟩:Ctr).OK Tryz.prog:=by
 refine⟨fun t=> ?_,fun _=>qnone_ok⟩
 show PT.OK (if t=17 then asmP (.int .i64 a) else if t=19 then asmP (.int .i64 b) else limP)
 split
 ·exact asmP_ok _
 ·split
  ·exact asmP_ok _
  ·exact limP_ok
theorem iv_ok (lo hi L:List Int) (h1:lo.length<=1000) (h2:hi.length<=1000) (hlo: ∀ x∈lo,fitsB x=true) (hhi: ∀ x∈hi,fitsB x=true) (h:ivl lo hi=some L) :
  FK 86 [.slice (intC .i64 lo) [],.slice (intC .i64 hi) []] (.own 4 35 (numC L)):=by
 refine FnOK.tree hdraw fp86 (ivQ_ok (minI lo) (maxI hi)) (PIv_eq (intC .i64 lo) (intC .i64 hi) (minI lo) (maxI hi)) ?_
 simp only[SS,intC_len]
 unfold ivl at h
 split at h
 ·rename_i he
  cases h
  refine⟨fun _=>rfl,fun h3=>⟨fun _=>rfl,fun h4=> ?_⟩⟩
  rcases he with he | he
  ·rw[List.isEmpty_iff] at he; subst he; exact absurd rfl h3
  ·rw[List.isEmpty_iff] at he; subst he; exact absurd rfl h4
 ·rename_i he
  split at h
  ·rename_i h5
   cases h
   have n1:lo≠[]:=fun e=>he (.inl (by rw[e]; rfl))
   have n2:hi≠[]:=fun e=>he (.inr (by rw[e]; rfl))
   have f1:=fitsB_iff.1 (hlo _ (minI_mem n1))
   have f2:=fitsB_iff.1 (hhi _ (maxI_mem n2))
   have l1:=List.length_pos_iff.2 n1
   have l2:=List.length_pos_iff.2 n2
   have hA:=iv_at (maxI hi) (by omega) _ (minI lo) [] rfl (by simp; omega) (by omega)
   refine⟨fun h=>by omega,fun _=>⟨fun h=>by omega,fun _=>⟨min_ok lo n1 (by omega),max_ok hi n2 (by omega),by omega,by omega,by omega,hA⟩⟩⟩
  ·cases h
end Go.Proofs.YtobgkdlghljdlaaGreatDoor
