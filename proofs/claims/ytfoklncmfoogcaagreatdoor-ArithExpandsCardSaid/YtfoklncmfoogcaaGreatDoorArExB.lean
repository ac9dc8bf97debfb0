/- arith.copied,functions,expand,Eval: proved. -/
import Derived.Test.YtfoklncmfoogcaaGreatDoorArEx
set_option linter.unusedSectionVars false
set_option linter.unusedVariables false
set_option linter.unusedSimpArgs false
set_option linter.deprecated false
set_option maxRecDepth 100000
namespace Go.Proofs.YtfoklncmfoogcaaGreatDoor
open Go.Sx
def CopP (x:Tm):Prop:=FnOK Tryz.prog 41 [.agg x.cells] (.agg x.cells)
theorem cop_at (k n:Int) (s:List UInt8) (l:List Tm) (hl:l.length<=1000) (H: ∀ x∈l,CopP x): ∀ (m i:Nat),l.length-i=m->i<=l.length →
  At Tryz.prog 0 (cut sc41 0) (hdCoB k n s (Tm.cellsL l) (Tm.cellsL (l.take i)) l.length i) (FinQ true 0 rs41 fun r _=>r= .agg [.int .u8 k,.int .i64 n,.str s,.slice (Tm.cellsL l) []]):=by
 intro m
 induction m with
 | zero =>
  intro i hm hi
  refine At.tree (ctr_ok (asmP_ok _) qnone_ok) (PCoB_eq k n s (Tm.cellsL l) (Tm.cellsL (l.take i)) l.length i 0 0 [] []) ?_
  unfold PCoB
  rw[List.take_of_length_le (show l.length<=i by omega)]
  simp only[SS]
  exact⟨fun h=>by omega,fun _=>trivial⟩
 | succ m ih =>
  intro i hm hi
  have h1:i<l.length:=by omega
  have hx:=cellsL_get h1
  have hC:=H _ (List.getElem_mem h1)
  have hI:=ih (i+1) (by omega) (by omega)
  have ht:Tm.cellsL (l.take (i+1))=Tm.cellsL (l.take i)++[l[i].cells]:=by
   rw[List.take_add_one,List.getElem?_eq_getElem h1,cellsL_app]; rfl
  rw[ht] at hI
  unfold CopP at hC
  generalize l[i]=x at hx hC hI
  obtain⟨kx,nx,sx,ax⟩:=x
  refine At.tree (ctr_ok (asmP_ok _) qnone_ok) (PCoB_eq k n s (Tm.cellsL l) (Tm.cellsL (l.take i)) l.length i kx nx sx (Tm.cellsL ax)) ?_
  unfold PCoB
  simp only[SS,cellsL_length,List.length_take]
  exact⟨fun _=>⟨⟨by omega,hx⟩,hC,⟨by simp[allLen],by omega⟩,by omega,hI⟩,fun h=>by omega⟩
theorem cop_ok: ∀ x:Tm,x.few 1000->CopP x
 | .mk k n s l,hx=>by
  simp only[Tm.few] at hx
  obtain⟨hl,hw⟩:=hx
  have H: ∀ x∈l,CopP x:=fun x hx=>cop_ok x (fewL_all.1 hw x hx)
  have hA:=cop_at k n s l hl H _ 1 rfl
  unfold CopP
  refine FnOK.tree hdraw fp41 (ctr_ok libT_ok qnone_ok) (PCop_eq k n s (Tm.cellsL l)) ?_
  unfold PCop
  rw[ok_jmp,cellsL_length]
  match l,hl,H,hA with
  | [],_,_,_ =>
   refine At.tree (ctr_ok (asmP_ok _) qnone_ok) (PCoA_eq k n s [] 0 0 0 0 [] []) ?_
   unfold PCoA
   rw[ok_br]
   refine⟨fun h=> ?_,fun _=>rfl⟩
   have:=of_decide_eq_true h; omega
  | .mk kx nx sx ax::r,hl,H,hA =>
   have hC:=H _ (List.mem_cons_self ..)
   have hI:=hA (by simp)
   unfold CopP at hC
   refine At.tree (ctr_ok (asmP_ok _) qnone_ok) (PCoA_eq k n s (Tm.cellsL (.mk kx nx sx ax::r)) (r.length+1:Nat) 0 kx nx sx (Tm.cellsL ax)) ?_
   unfold PCoA
   simp only[SS]
   exact⟨fun _=>⟨⟨by omega,rfl⟩,hC,⟨by simp[allLen],by omega⟩,by omega,hI⟩,fun h=>by omega⟩
termination_by x=>SizeOf.sizeOf x
decreasing_by
 have:=List.sizeOf_lt_of_mem hx
 simp only[Tm.mk.sizeOf_spec]
 omega
def empI:List (List Tm)->Int->Int
 | [],_=> -1
 | a::r,i=>if a.isEmpty=true then i else empI r (i+1)
theorem empI_ge: ∀ (l:List (List Tm)) (i:Int),0<=i->decide (0<=empI l i)=l.any List.isEmpty
 | [],i,_=>by simp[empI]
 | a::r,i,hi=>by
  have ih:=empI_ge r (i+1) (by omega)
  by_cases hf:a.isEmpty=true
  ·simp[empI,hf,hi]
  ·rw[empI,if_neg hf,List.any_cons,ih,Bool.eq_false_iff.2 hf,Bool.false_or]
noncomputable def CFe (es:List (List D)):Tr:=Tr.ret (D.bool (decide ((↑(List.length es):Int)=(0:Int)))) []
theorem CFe_eq (es:List (List D)):goT Tryz.prog (ctr libT) 0 (finF false 0 rs86) 2000 [Fr.sc sc86] { tm:=envOf 0 ([]++[D.slice es []]++[]),ob:=[] }=CFe es:=by kernel_rfl
theorem fe_ok (l:List Tm):CallL Tryz.prog (.func (.func 86) [] []) [.slice (Tm.cellsL l) []] [] fun r ob=>r= .bool l.isEmpty/\ob=[]:=by
 refine CallL.tree hdraw fp86 (ctr_ok libT_ok qnone_ok) (CFe_eq (Tm.cellsL l)) ?_
 unfold CFe
 have e:decide (((Tm.cellsL l).length:Int)=0)=l.isEmpty:=by
  rw[cellsL_length,Bool.eq_iff_iff,decide_eq_true_eq,List.isEmpty_iff]
  rw[<- List.length_eq_zero_iff]; omega
 rw[ok_ret,e]
 exact⟨rfl,rfl⟩
noncomputable def PIxE (es ext:List (List D)):Tr:=Tr.jmp (cut sc104 0) { tm:=[(0,D.slice es ext),(1,D.func (Fn.func 86) [] []),(7,D.int .i64 (↑(List.length es):Int)),(8,D.int .i64 (0:Int))],ob:=[] }
theorem PIxE_eq (es ext:List (List D)):goT Tryz.prog (ctr libT) 0 (finF false 0 rs104) 2000 [Fr.sc sc104] { tm:=envOf 0 ([]++[D.slice es ext,D.func (Fn.func 86) [] []]++[]),ob:=[] }=PIxE es ext:=by kernel_rfl
def hdIxE (es ext:List (List D)) (n i:Int):St:=⟨[(0,.slice es ext),(1,.func (.func 86) [] []),(7,.int .i64 n),(8,.int .i64 i)],[]⟩
noncomputable def PIxE2 (es ext:List (List D)) (m i:Int) (xs:List (List D)) (b:Bool):Tr:=brT (decide (i<m)) (Tr.owe ((0:Int)<=i/\es[Int.toNat i]? = some [D.slice xs []]) (Tr.owe (CallL Tryz.prog (D.func (Fn.func 86) [] []) [D.slice xs []] [] fun r0 ob0=>r0=D.bool b/\ob0=[]) (brT b (Tr.ret (D.int .i64 i) []) (Tr.owe ((-9223372036854775808:Int)<=i+(1:Int)/\i+(1:Int)<=(9223372036854775807:Int)) (Tr.jmp (cut sc104 0) { tm:=[(0,D.slice es ext),(1,D.func (Fn.func 86) [] []),(7,D.int .i64 m),(8,D.int .i64 (i+(1:Int)))],ob:=[] }))))) (Tr.ret (D.int .i64 (-1:Int)) [])
theorem PIxE2_eq (es ext:List (List D)) (m i:Int) (xs:List (List D)) (b:Bool):goT Tryz.prog (ctr libT (asmQ (D.bool b)) (eOne [D.slice xs []])) 0 (finF false 0 rs104) 2000 (cut sc104 0) (hdIxE es ext m i)=PIxE2 es ext m i xs b:=by kernel_rfl
noncomputable def PCtE (es ext:List (List D)) (r:Int):Tr:=Tr.owe (CallL Tryz.prog (D.func (Fn.func 104) [] []) [D.slice es ext,D.func (Fn.func 86) [] []] [] fun r0 ob0=>r0=D.int .i64 r/\ob0=[]) (Tr.ret (D.bool (decide ((0:Int)<=r))) [])
theorem PCtE_eq (es ext:List (List D)) (r:Int):goT Tryz.prog (ctr libT (asmO (D.int .i64 r) [])) 0 (finF false 0 rs85) 2000 [Fr.sc sc85] { tm:=envOf 0 ([]++[D.slice es ext,D.func (Fn.func 86) [] []]++[]),ob:=[] }=PCtE es ext r:=by kernel_rfl
theorem ixE_at (ext:List (List D)) (L:List (List Tm)) (hl:L.length<=1000): ∀ (m i:Nat),L.length-i=m->i<=L.length →
  At Tryz.prog 0 (cut sc104 0) (hdIxE (partD L) ext L.length i) (FinQ false 0 rs104 fun r ob=>r= .int .i64 (empI (L.drop i) i)/\ob=[]):=by
 intro m
 induction m with
 | zero =>
  intro i hm hi
  refine At.tree (ctr_ok libT_ok (asmQ_ok _)) (PIxE2_eq (partD L) ext L.length i [] true) ?_
  unfold PIxE2
  rw[List.drop_eq_nil_of_le (by omega)]
  simp only[SS]
  exact⟨fun h=>by omega,fun _=>rfl⟩
 | succ m ih =>
  intro i hm hi
  have h1:i<L.length:=by omega
  have hI:=ih (i+1) (by omega) (by omega)
  rw[drop_cons h1]
  simp only[empI]
  refine At.tree (ctr_ok libT_ok (asmQ_ok _)) (PIxE2_eq (partD L) ext L.length i (Tm.cellsL L[i]) L[i].isEmpty) ?_
  unfold PIxE2
  simp only[SS]
  refine⟨fun _=>⟨⟨by omega,partD_get h1⟩,fe_ok _,fun h=>by rw[if_pos h],fun h=>⟨by omega, ?_⟩⟩,fun h=>by omega⟩
  rw[if_neg (by simp[h])]
  exact hI
theorem ctE_ok (ext:List (List D)) (L:List (List Tm)) (hl:L.length<=1000):CallL Tryz.prog (.func (.func 85) [] []) [.slice (partD L) ext,.func (.func 86) [] []] [] fun r ob=>r= .bool (L.any List.isEmpty)/\ob=[]:=by
 have hI:CallL Tryz.prog (.func (.func 104) [] []) [.slice (partD L) ext,.func (.func 86) [] []] [] fun r ob=>r= .int .i64 (empI L 0)/\ob=[]:=by
  refine CallL.tree hdraw fp104 (ctr_ok libT_ok qnone_ok) (PIxE_eq (partD L) ext) ?_
  unfold PIxE
  simp only[SS,partD_len]
  exact ixE_at ext L hl _ 0 rfl (Nat.zero_le _)
 refine CallL.tree hdraw fp85 (ctr_ok libT_ok (asmO_ok _ _)) (PCtE_eq (partD L) ext (empI L 0)) ?_
 unfold PCtE
 simp only[SS]
 exact⟨hI,empI_ge L 0 (by decide)⟩
def prdL (L:List (List Tm)) (i:Nat):Nat:=((L.take i).map List.length).prod
theorem prdL_succ {L:List (List Tm)} {i:Nat} (h:i<L.length):prdL L (i+1)=prdL L i*L[i].length:=by
 unfold prdL
 rw[List.take_add_one,List.getElem?_eq_getElem h,Option.toList_some,List.map_append,List.prod_append]
 simp
theorem rwsT_ok (s:List UInt8) (L:List (List Tm)) (hL:L.length<=1000) (hl: ∀ l∈L,l≠[]/\l.length<=1000) (h0:L≠[]) (hz:(prodL L).length<=1000) :
  CallL Tryz.prog (.func (.func 105) [] [.ptr 0 0]) [.yld 1] (obTA s (partD L)) fun r ob=>r= .tuple []/\ob=obTB s (partD L) (Tm.cellsL ((prodL L).map (fun r=> .mk 4 0 s r))):=by
 have hf:=funs_prod s L (List.replicate L.length (.mk 0 0 [] [])) (by simp)
 have hF:=(filAB s L (by omega) (fun l hx=>⟨(hl l hx).1,by have:=(hl l hx).2; omega⟩) h0 _ 0 rfl (Nat.zero_le _)).1 (List.replicate L.length (.mk 0 0 [] [])) (by simp) (by rw[List.drop_zero,hf]; simpa using hz)
 unfold FilA at hF
 rw[List.drop_zero,hf] at hF
 have e:Tm.cellsL (List.replicate L.length (.mk 0 0 [] []))=List.replicate L.length [.int .u8 0,.int .i64 0,.str [],.slice [] []]:=by
  rw[cellsL_map,List.map_replicate]; rfl
 rw[e] at hF
 refine CallL.tree hdraw fp105 (ctr_ok libT_ok (asmA_ok _ _)) (FR1_eq s (partD L) (Tm.cellsL (fillS (outF s) L 0 (List.replicate L.length (.mk 0 0 [] []),[])).1) (Tm.cellsL ((prodL L).map (fun r=> .mk 4 0 s r)))) ?_
 unfold FR1
 simp only[SS,partD_len]
 exact⟨⟨by omega,by omega,by omega⟩,hF,rfl⟩
theorem fn3_at (s:List UInt8) (L:List (List Tm)) (hL:L.length<=1000) (hl: ∀ l∈L,l≠[]/\l.length<=1000) (h0:L≠[]) (hz:(prodL L).length<=1000) :
  At Tryz.prog 0 (frg sc63 3) ⟨[(1,.slice (partD L) []),(2,.ptr 0 0),(4,.ptr 1 0)],[(0,.cells [.str s]),(1,.cells [.nils])]⟩ (FinQ true 0 rs63 fun r _=>r= .own 4 33 (Tm.cellsL ((prodL L).map (fun r=> .mk 4 0 s r)))):=by
 refine At.tree (ctr_ok libT_ok (QT.or_ok rowsT_ok (asmA_ok _ _))) (PFn3_eq s (partD L) [] (Tm.cellsL ((prodL L).map (fun r=> .mk 4 0 s r)))) ?_
 unfold PFn3
 rw[ok_owe,ok_owe,ok_jmp]
 refine⟨trivial,rwsT_ok s L hL hl h0 hz, ?_⟩
 refine At.tree (ctr_ok libT_ok qnone_ok) (PFn4_eq (Tm.cellsL ((prodL L).map (fun r=> .mk 4 0 s r)))) ?_
 unfold PFn4
 exact rfl
theorem fnl_at (s:List UInt8) (L:List (List Tm)) (hL:L.length<=1000) (hl: ∀ l∈L,l≠[]/\l.length<=1000) (h0:L≠[]) (hz:(prodL L).length<=1000) (hp: ∀ i,i<=L.length->prdL L i<=1000): ∀ (m i:Nat),L.length-i=m->i<=L.length →
  At Tryz.prog 0 (cut sc63 0) (hdFn s (partD L) [] (prdL L i) L.length i) (FinQ true 0 rs63 fun r _=>r= .own 4 33 (Tm.cellsL ((prodL L).map (fun r=> .mk 4 0 s r)))):=by
 intro m
 induction m with
 | zero =>
  intro i hm hi
  refine At.tree (ctr_ok limP_ok qnone_ok) (PFnL_eq s (partD L) [] (prdL L i) L.length i []) ?_
  unfold PFnL
  simp only[SS]
  exact⟨fun h=>by omega,fun _=>fn3_at s L hL hl h0 hz⟩
 | succ m ih =>
  intro i hm hi
  have h1:i<L.length:=by omega
  have hI:=ih (i+1) (by omega) (by omega)
  have h2:=hp (i+1) (by omega)
  have e:((prdL L (i+1):Nat):Int)=(prdL L i:Int)*(L[i].length:Int):=by rw[prdL_succ h1]; exact Int.natCast_mul _ _
  refine At.tree (ctr_ok limP_ok qnone_ok) (PFnL_eq s (partD L) [] (prdL L i) L.length i (Tm.cellsL L[i])) ?_
  unfold PFnL
  rw[cellsL_length,<- e]
  simp only[SS]
  exact⟨fun _=>⟨⟨by omega,partD_get h1⟩,by omega,by omega,by omega,hI⟩,fun h=>by omega⟩
theorem fun_ok (s:List UInt8) (L:List (List Tm)) (hL:L.length<=1000) (hl: ∀ l∈L,l.length<=1000) (h0:L≠[]) (hz:(prodL L).length<=1000) (hp: ∀ i,i<=L.length->prdL L i<=1000) :
  FnOK Tryz.prog 63 [.str s,.slice (partD L) []] (exD (!(L.any List.isEmpty)) (Tm.cellsL ((prodL L).map (fun r=> .mk 4 0 s r)))):=by
 refine FnOK.tree hdraw fp63 (ctr_ok libT_ok qnone_ok) (PFn_eq s (partD L) []) ?_
 unfold PFn
 rw[ok_jmp]
 refine At.tree (ctr_ok libT_ok (asmA_ok _ _)) (PFn0_eq s (partD L) [] (L.any List.isEmpty)) ?_
 unfold PFn0
 rw[ok_owe,ok_br,ok_ret,ok_jmp]
 refine⟨ctE_ok [] L hL,fun h=>by rw[h]; rfl,fun h=> ?_⟩
 rw[h]
 have hne: ∀ l∈L,l≠[]/\l.length<=1000:=fun l hx=>⟨fun e=>by
  have:=List.any_eq_false.1 h l hx
  rw[e] at this
  exact this rfl,hl l hx⟩
 refine At.tree (ctr_ok libT_ok qnone_ok) (PFn1_eq s (partD L) []) ?_
 unfold PFn1
 rw[ok_jmp]
 refine At.tree (ctr_ok libT_ok qnone_ok) (PFn2_eq s (partD L) []) ?_
 unfold PFn2
 rw[ok_jmp,partD_len]
 exact fnl_at s L hL hne h0 hz hp _ 0 rfl (Nat.zero_le _)
def ExpP (x:Tm):Prop:= ∃ b,(b=false->x.ex=[])/\FnOK Tryz.prog 40 [.agg x.cells] (exD b (Tm.cellsL x.ex))
theorem exp_at (k:Nat) (n:Int) (s:List UInt8) (l:List Tm) (hl:l.length<=1000) (h6:k≠6) (H: ∀ x∈l,ExpP x) (b0:Bool) (E:List (List D)) (hop:k=5->FnOK Tryz.prog 62 [.str s,.slice (partD (l.map Tm.ex)) []] (exD b0 E)) (hfn:k≠5->FnOK Tryz.prog 63 [.str s,.slice (partD (l.map Tm.ex)) []] (exD b0 E)) :
  ∀ (m i:Nat),l.length-i=m->i<=l.length →
  At Tryz.prog 0 (cut sc40 0) (hdEx k n s (Tm.cellsL l) (partD ((l.take i).map Tm.ex)) l.length i) (FinQ true 0 rs40 fun r _=>r=exD b0 E):=by
 have e6:((k:Int)=6)=(k=6):=propext (by omega)
 have e5:((k:Int)=5)=(k=5):=propext (by omega)
 intro m
 induction m with
 | zero =>
  intro i hm hi
  refine At.tree (ctr_ok (asmE_ok b0 E) qnone_ok) (PExB_eq k n s (Tm.cellsL l) (partD ((l.take i).map Tm.ex)) l.length i 0 0 [] [] b0 E) ?_
  unfold PExB
  rw[List.take_of_length_le (show l.length<=i by omega)]
  simp only[SS,e6,e5]
  refine⟨fun h=>by omega,fun _=>⟨fun h=>absurd h h6,fun _=>⟨fun h5=> ?_,fun h5=> ?_⟩⟩⟩
  ·have:=hop h5
   exact⟨fun hb=>by subst hb; exact⟨this,rfl⟩,fun hb=>by subst hb; exact⟨this,rfl⟩⟩
  ·have:=hfn h5
   exact⟨fun hb=>by subst hb; exact⟨this,rfl⟩,fun hb=>by subst hb; exact⟨this,rfl⟩⟩
 | succ m ih =>
  intro i hm hi
  have h1:i<l.length:=by omega
  have hx:=cellsL_get h1
  obtain⟨b,hb,hC⟩:=H _ (List.getElem_mem h1)
  have hI:=ih (i+1) (by omega) (by omega)
  have ht:partD ((l.take (i+1)).map Tm.ex)=partD ((l.take i).map Tm.ex)++[[.slice (Tm.cellsL l[i].ex) []]]:=by
   rw[List.take_add_one,List.getElem?_eq_getElem h1]
   simp only[partD,List.map_append,Option.toList_some,List.map_cons,List.map_nil]
  rw[ht] at hI
  generalize hxl:l[i]=x at hx hC hI hb
  generalize hE:Tm.ex x=e at hb hC hI
  clear hE
  obtain⟨kx,nx,sx,ax⟩:=x
  refine At.tree (ctr_ok (asmE_ok b _) qnone_ok) (PExB_eq k n s (Tm.cellsL l) (partD ((l.take i).map Tm.ex)) l.length i kx nx sx (Tm.cellsL ax) b (Tm.cellsL e)) ?_
  unfold PExB
  have hlen:(partD ((l.take i).map Tm.ex)).length=i:=by rw[partD_len,List.length_map,List.length_take]; omega
  simp only[SS,hlen]
  refine⟨fun _=>⟨⟨by omega,hx⟩,fun h=> ?_,fun h=> ?_⟩,fun h=>by omega⟩
  ·subst h
   exact⟨hC,⟨by simp[allLen],by omega⟩,by omega,hI⟩
  ·subst h
   have:=hb rfl
   subst this
   exact⟨hC,⟨by simp[allLen],by omega⟩,by omega,hI⟩
theorem set_acc (o:Option Int): ∀ q:List Int,q.Perm o.toList->SetC q o.toList:=fun q hq=>by
 cases o with
 | none=>rw[List.perm_nil.1 hq]; exact set0
 | some n=>rw[List.perm_singleton.1 hq]; exact set1 n
theorem exp_ok: ∀ x:Tm,x.few 1000->x.all Tm.ns=true->ExpP x
 | .mk k n s l,hx,hn=>by
  have hn:=all_split.1 hn
  have hc:=cop_ok _ hx
  simp only[Tm.few] at hx
  obtain⟨hl,hw⟩:=hx
  have h6:k≠6:=by simpa [Tm.ns] using hn.1
  have H: ∀ x∈l,ExpP x:=fun x hx=>exp_ok x (fewL_all.1 hw x hx) (hn.2 x hx)
  by_cases h0:l=[]
  ·subst h0
   refine⟨true,fun h=>(Bool.noConfusion h), ?_⟩
   refine FnOK.tree hdraw fp40 (ctr_ok (asmP_ok _) qnone_ok) (PExL_eq k n s) ?_
   unfold PExL
   exact⟨hc,rfl⟩
  ·have hone: ∀ p∈l.map Tm.ex,p.length<=1:=fun p hp=>by
    obtain⟨x,_,rfl⟩:=List.mem_map.1 hp
    exact ex_len x
   have he:=ex_mk (k:=k) (n:=n) (s:=s) h0
   have hop:k=5->FnOK Tryz.prog 62 [.str s,.slice (partD (l.map Tm.ex)) []] (exD true (Tm.cellsL (Tm.mk k n s l).ex)):=fun h5=>by
    have:=op_ok s (l.map Tm.ex) [] _ (((Tm.evL l).bind numsAll).bind (calcR s)).toList (by simp; omega) (fun p hp=>Nat.le_trans (hone p hp) (by decide)) (op_ex s l) (by
     cases ((Tm.evL l).bind numsAll).bind (calcR s) <;> simp) (set_acc _)
    rw[op_list,<- h5,<- he] at this
    exact this
   have hfn:k≠5->FnOK Tryz.prog 63 [.str s,.slice (partD (l.map Tm.ex)) []] (exD (!((l.map Tm.ex).any List.isEmpty)) (Tm.cellsL (Tm.mk k n s l).ex)):=fun h5=>by
    have hprod:prodL (l.map Tm.ex)=(Tm.evL l).toList:=prod_ex l
    have hz:(prodL (l.map Tm.ex)).length<=1000:=by
     rw[hprod]
     cases Tm.evL l <;> simp
    have:=fun_ok s (l.map Tm.ex) (by simpa using hl) (fun p hp=>Nat.le_trans (hone p hp) (by decide)) (by simpa using h0) hz (fun i _=>Nat.le_trans (prod_one _ fun p hp=>hone p (List.mem_of_mem_take hp)) (by decide))
    rw[hprod] at this
    have e2:(Tm.evL l).toList.map (fun r=>Tm.mk 4 0 s r)=(Tm.mk k n s l).ex:=by
     rw[he]
     unfold evK
     cases Tm.evL l with
     | none=>rfl
     | some vs=>simp[h5]
    rw[e2] at this
    exact this
   have hb:(!((l.map Tm.ex).any List.isEmpty))=false->k≠5->(Tm.mk k n s l).ex=[]:=fun h h5=>by
    have h2:=ex_none (l:=l)
    rw[he]
    have h3:(Tm.evL l).isSome=false:=by
     rw[h2]
     simp only[Bool.not_eq_false',List.any_eq_true] at h
     obtain⟨p,hp,hpe⟩:=h
     rw[List.all_eq_false]
     exact⟨p,hp,by simp[hpe]⟩
    cases hq:Tm.evL l with
    | none=>rfl
    | some q=>rw[hq] at h3; cases h3
   have hgo: ∀ b0,(k=5->FnOK Tryz.prog 62 [.str s,.slice (partD (l.map Tm.ex)) []] (exD b0 (Tm.cellsL (Tm.mk k n s l).ex)))->(k≠5->FnOK Tryz.prog 63 [.str s,.slice (partD (l.map Tm.ex)) []] (exD b0 (Tm.cellsL (Tm.mk k n s l).ex)))->FnOK Tryz.prog 40 [.agg (Tm.mk k n s l).cells] (exD b0 (Tm.cellsL (Tm.mk k n s l).ex)):=fun b0 h1 h2=>by
    have hA:=exp_at k n s l hl h6 H b0 _ h1 h2 _ 0 rfl (Nat.zero_le _)
    generalize Tm.cellsL (Tm.mk k n s l).ex=E at hA ⊢
    clear hop hfn hb h1 h2 he hone H hn hc
    cases l with
    | nil=>exact absurd rfl h0
    | cons x r =>
     refine FnOK.tree hdraw fp40 (ctr_ok libT_ok qnone_ok) (PExp_eq k n s x.cells (Tm.cellsL r)) ?_
     unfold PExp
     rw[ok_jmp]
     have e:(x.cells::Tm.cellsL r).length=(x::r).length:=by simp[cellsL_length]
     rw[e]
     exact hA
   by_cases h5:k=5
   ·exact⟨true,fun h=>(Bool.noConfusion h),hgo true hop (fun h=>absurd h5 h)⟩
   ·exact⟨_,fun h=>hb h h5,hgo _ (fun h=>absurd h h5) hfn⟩
termination_by x=>SizeOf.sizeOf x
decreasing_by
 have:=List.sizeOf_lt_of_mem hx
 simp only[Tm.mk.sizeOf_spec]
 omega
theorem pureSp:pureF Tryz.prog 53=true:=by kernel_rfl
theorem sp_ok (x:Tm) (hx:x.wf 281474976710656):FnOK Tryz.prog 53 [.agg x.cells] (.bool x.sp) :=
 FnOK.of_call pureSp ((spC_ok x hx).mono fun r ob ⟨h1,h2⟩=>by subst h1; subst h2; exact .inr ⟨rfl,rfl⟩)
def evD:Option Tm->D
 | some v=> .tuple [.agg v.cells,.bool true]
 | none=> .tuple [.agg [.int .u8 0,.int .i64 0,.str [],.slice [] []],.bool false]
theorem eval_ok (x:Tm) (hx:x.wf 281474976710656) (hf:x.few 1000) (hd:x.depth<=1000000000):FnOK Tryz.prog 25 [.agg x.cells] (evD x.eval):=by
 have h1:=valid_ok x hx hd
 have h2:=ground_ok x hx
 have h3:=sp_ok x hx
 have h4:=exp_ok x hf
 have h5:=ev_few (N:=1000) x
 unfold ExpP at h4
 unfold Tm.eval
 unfold Tm.sp at h3
 generalize x.valid=v at h1 ⊢
 generalize x.all Tm.gr=g at h2 ⊢
 generalize x.all Tm.ns=p at h3 h4 ⊢
 unfold Tm.ex at h4
 by_cases hc:(v && (g && p))=true
 ·rw[if_pos hc]
  simp only[Bool.and_eq_true] at hc
  obtain⟨rfl,rfl,rfl⟩:=hc
  obtain⟨b,hb,h4⟩:=h4 rfl
  cases hev:x.ev with
  | none =>
   rw[hev] at h4
   obtain⟨k,n,s,l⟩:=x
   cases b
   ·refine FnOK.tree hdraw fp25 (dCtr_ok qnone_ok) (PEvN_eq k n s (Tm.cellsL l) true true false) ?_
    unfold PEvN
    simp only[ok_owe,ok_br,ok_ret,Bool.not_true,Bool.false_eq_true,false_implies,true_and,true_implies]
    exact⟨h1,h2,h3,h4,rfl⟩
   ·refine FnOK.tree hdraw fp25 (dCtr_ok qnone_ok) (PEvE_eq k n s (Tm.cellsL l) true true false) ?_
    unfold PEvE
    simp only[ok_owe,ok_br,ok_ret,Bool.not_true,Bool.false_eq_true,false_implies,true_and,true_implies]
    exact⟨h1,h2,h3,h4,rfl⟩
  | some y =>
   rw[hev] at h4 hb
   have hy:=cop_ok y (h5 y hf hev)
   unfold CopP at hy
   obtain⟨k,n,s,l⟩:=x
   obtain⟨kx,nx,sx,ax⟩:=y
   cases b
   ·exact absurd (hb rfl) (by simp)
   ·refine FnOK.tree hdraw fp25 (dCtr_ok qnone_ok) (PEvO_eq k n s (Tm.cellsL l) true true false kx nx sx (Tm.cellsL ax)) ?_
    unfold PEvO
    simp only[ok_owe,ok_br,ok_ret,Bool.not_true,Bool.false_eq_true,false_implies,true_and,true_implies]
    exact⟨h1,h2,h3,h4,by decide,hy,rfl⟩
 ·rw[if_neg hc]
  obtain⟨k,n,s,l⟩:=x
  refine FnOK.tree hdraw fp25 (dCtr_ok qnone_ok) (PEvN_eq k n s (Tm.cellsL l) v g (!p)) ?_
  unfold PEvN
  simp only[ok_owe,ok_br,ok_ret]
  refine⟨h1,fun _=>rfl,fun hv=>⟨h2,fun _=>rfl,fun hg=>⟨h3,fun _=>rfl,fun hp=> ?_⟩⟩⟩
  exact absurd (by simp at hv hg hp; simp[hv,hg,hp]) hc
end Go.Proofs.YtfoklncmfoogcaaGreatDoor
