/- arith.operation,functions,expand: where it is not too much. -/
import Derived.Test.YtfoklncmfoogcaaGreatDoorArXpA
set_option linter.unusedSectionVars false
set_option linter.unusedVariables false
set_option linter.unusedSimpArgs false
set_option linter.deprecated false
set_option maxRecDepth 100000
namespace Go.Proofs.YtfoklncmfoogcaaGreatDoor
open Go.Sx
theorem numC_map (l:List Int):numC l=Tm.cellsL (l.map numT):=numC_cells l
theorem opX_ok (s:List UInt8) (ps:List (List Tm)) (L:List Tm) (hL:ps.length<=1000) (hl: ∀ p∈ps,p.length<=1000) (h:opX s ps=some L):FnOK Tryz.prog 62 [.str s,.slice (partD ps) []] (.slice (Tm.cellsL L) []):=by
 unfold opX at h
 split at h
 ·rename_i hz
  cases h
  have hacc:(fillS (opB s) (ps.map intsT) 0 (List.replicate ps.length 0,[])).2=opF s (prodL (ps.map intsT)):=by
   rw[(fillS_prod (opB s) _ 0 _ [] (by simp)).1]
   simp[opF]
  have hnd:(opF s (prodL (ps.map intsT))).Nodup:=opF_nd s _ List.nodup_nil
  have:=op_ok s ps [] (opF s (prodL (ps.map intsT))) (sortI (opF s (prodL (ps.map intsT)))) (by omega) (fun p hp=>by have:=hl p hp; omega) hacc hz fun q hq=>by
   have hq2:=perm_nodup hq hnd
   have:=set_ok q hq2 (by rw[hq.length_eq]; exact hz)
   rwa [pwI_eq (sortI_lt q) (sortI_lt (opF s (prodL (ps.map intsT)))) fun x=>by rw[sortI_mem,sortI_mem]; exact hq.mem_iff] at this
  rw[numC_map] at this
  exact FnOK.freezeG this
 ·cases h
theorem fun_emp (s:List UInt8) (L:List (List Tm)) (hL:L.length<=1000) (h:L.any List.isEmpty=true):FnOK Tryz.prog 63 [.str s,.slice (partD L) []] (.slice [] []):=by
 refine FnOK.tree hdraw fp63 (ctr_ok libT_ok qnone_ok) (PFn_eq s (partD L) []) ?_
 unfold PFn
 rw[ok_jmp]
 refine At.tree (ctr_ok libT_ok (asmA_ok _ _)) (PFn0_eq s (partD L) [] (L.any List.isEmpty)) ?_
 unfold PFn0
 rw[ok_owe,ok_br,ok_ret,ok_jmp]
 exact⟨ctE_ok [] L hL,fun h=>rfl,fun h'=>by rw[h] at h'; cases h'⟩
theorem prd_mono (L:List (List Tm)) (h: ∀ l∈L,l≠[]) {i:Nat} (hi:i<=L.length):prdL L i<=(prodL L).length:=by
 have h2: ∀ L:List (List Tm),(∀ l∈L,l≠[])->1<=(prodL L).length:=by
  intro L
  induction L with
  | nil=>intro _; simp[prodL]
  | cons a r ih =>
   intro h
   have h1:=ih fun l hl=>h l (List.mem_cons_of_mem _ hl)
   have h3:=List.length_pos_iff.2 (h a (List.mem_cons_self ..))
   rw[prodL_len,List.map_cons,List.prod_cons,<- prodL_len]
   exact Nat.mul_pos h3 h1
 have h1:prdL L i*(prodL (L.drop i)).length=(prodL L).length:=by
  unfold prdL
  rw[prodL_len,prodL_len,<- List.prod_append,<- List.map_append,List.take_append_drop]
 have h3:=h2 (L.drop i) fun l hl=>h l (List.mem_of_mem_drop hl)
 calc prdL L i=prdL L i*1:=(Nat.mul_one _).symm
  _<=prdL L i*(prodL (L.drop i)).length:=Nat.mul_le_mul_left _ h3
  _=_:=h1
theorem fnX_ok (s:List UInt8) (ps:List (List Tm)) (L:List Tm) (hL:ps.length<=1000) (h0:ps≠[]) (hl: ∀ p∈ps,p.length<=1000) (h:fnX s ps=some L):FnOK Tryz.prog 63 [.str s,.slice (partD ps) []] (.slice (Tm.cellsL L) []):=by
 unfold fnX at h
 split at h
 ·rename_i he; cases h; exact fun_emp s ps hL he
 ·rename_i he
  split at h
  ·rename_i hz
   cases h
   have hne: ∀ l∈ps,l≠[]:=fun l hx e=>he (List.any_eq_true.2 ⟨l,hx,by rw[e]; rfl⟩)
   have:=fun_ok s ps hL hl h0 hz fun i hi=>Nat.le_trans (prd_mono ps hne hi) hz
   rw[Bool.eq_false_iff.2 he] at this
   exact FnOK.freezeG this
  ·cases h
def xpE (kx nx:Int) (sx:List UInt8) (ax us vs:List (List D)):Nat->Int->List D:=fun t _=>if t=31 then [.slice us []] else if t=35 then [.slice vs []] else tC kx nx sx ax
def xpCtr (l:List (Nat × D)) (E:Nat->Int->List D):Ctr:=⟨(sCtr l).F,fun _=>qnone,E⟩
theorem xpCtr_ok (l:List (Nat × D)) (E:Nat->Int->List D):(xpCtr l E).OK Tryz.prog:=⟨(sCtr_ok l).F,fun _=>qnone_ok⟩
noncomputable def PXp (k n:Int) (s:List UInt8) (a row:List (List D)) (m:Int) (i:Nat) (kx nx:Int) (sx:List UInt8) (ax es us vs is js rs:List (List D)):Tr:=brT (decide ((↑i:Int)<m)) (Tr.owe ((0:Int)<=(↑i:Int)/\a[Int.toNat (↑i:Int)]? = some [D.int .u8 kx,D.int .i64 nx,D.str sx,D.slice ax []]) (Tr.owe (FnOK Tryz.prog 40 [D.agg [D.int .u8 kx,D.int .i64 nx,D.str sx,D.slice ax []]] (D.slice es [])) (Tr.owe (allLen 1 [[D.slice es []]]/\List.length row+1<=1073741824) (Tr.owe ((-9223372036854775808:Int)<=(↑i:Int)+(1:Int)/\(↑i:Int)+(1:Int)<=(9223372036854775807:Int)) (Tr.jmp (cut sc40 0) { tm:=[(1,D.ptr 0 0),(3,D.vec 1),(14,D.slice a []),(15,D.int .i64 m),(16,D.int .i64 ((↑i:Int)+(1:Int)))],ob:=[(0,Ob.cells [D.int .u8 k,D.int .i64 n,D.str s,D.slice a []]),(1,Ob.arr true 1 31 (row++[[D.slice es []]]))] }))))) (brT (decide (k=(6:Int))) (Tr.owe ((0:Int)<=(0:Int)/\row[0]? = some [D.slice us []]) (Tr.owe (FnOK Tryz.prog 61 [D.slice us []] (D.slice is [])) (Tr.owe ((0:Int)<=(1:Int)/\row[1]? = some [D.slice vs []]) (Tr.owe (FnOK Tryz.prog 61 [D.slice vs []] (D.slice js [])) (Tr.owe (FnOK Tryz.prog 60 [D.slice is [],D.slice js []] (D.slice rs [])) (Tr.ret (D.slice rs []) [])))))) (brT (decide (k=(5:Int))) (Tr.owe (FnOK Tryz.prog 62 [D.str s,D.slice row []] (D.slice rs [])) (Tr.ret (D.slice rs []) [])) (Tr.owe (FnOK Tryz.prog 63 [D.str s,D.slice row []] (D.slice rs [])) (Tr.ret (D.slice rs []) []))))
theorem PXp_eq (k n:Int) (s:List UInt8) (a row:List (List D)) (m:Int) (i:Nat) (kx nx:Int) (sx:List UInt8) (ax es us vs is js rs:List (List D)):goT Tryz.prog (xpCtr [(22,D.slice es []),(33,D.slice is []),(37,D.slice js []),(38,D.slice rs []),(44,D.slice rs []),(48,D.slice rs [])] (xpE kx nx sx ax us vs)) 0 (finF true 0 rs40) 2000 (cut sc40 0) (hdEx k n s a row m (↑i:Int))=PXp k n s a row m i kx nx sx ax es us vs is js rs:=by kernel_rfl
def ExpG (x:Tm) (L:List Tm):Prop:=FnOK Tryz.prog 40 [.agg x.cells] (.slice (Tm.cellsL L) [])
theorem ints_ok (p:List Tm) (hl:p.length<=1000):FnOK Tryz.prog 61 [.slice (Tm.cellsL p) []] (.slice (intC .i64 (intsT p)) []):=FnOK.freezeG (int_ok [] p (by omega))
theorem intsT_le (p:List Tm):(intsT p).length<=p.length:=List.length_filterMap_le ..
def XpEnd (k:Nat) (s:List UInt8) (ps:List (List Tm)) (L:List Tm):Prop :=
 (k=6->ps.length=2/\FnOK Tryz.prog 60 [.slice (intC .i64 (intsT (ps.getD 0 []))) [],.slice (intC .i64 (intsT (ps.getD 1 []))) []] (.slice (Tm.cellsL L) [])) ∧
 (k=5->FnOK Tryz.prog 62 [.str s,.slice (partD ps) []] (.slice (Tm.cellsL L) [])) ∧
 (k≠5->k≠6->FnOK Tryz.prog 63 [.str s,.slice (partD ps) []] (.slice (Tm.cellsL L) []))
theorem partD_getD {ps:List (List Tm)} {i:Nat} (h:i<ps.length):(partD ps)[i]? = some [.slice (Tm.cellsL (ps.getD i [])) []]:=by
 rw[partD_get h]
 simp[h]
theorem expg_at (k:Nat) (n:Int) (s:List UInt8) (l:List Tm) (ps:List (List Tm)) (L:List Tm) (hps:ps.length=l.length) (hl:l.length<=1000) (hp: ∀ p∈ps,p.length<=1000) (H: ∀ (i:Nat) (h:i<l.length) (h':i<ps.length),ExpG l[i] ps[i]) (hend:XpEnd k s ps L) :
  ∀ (m i:Nat),l.length-i=m->i<=l.length →
  At Tryz.prog 0 (cut sc40 0) (hdEx k n s (Tm.cellsL l) (partD (ps.take i)) l.length i) (FinQ true 0 rs40 fun r _=>r= .slice (Tm.cellsL L) []):=by
 have e6:((k:Int)=6)=(k=6):=propext (by omega)
 have e5:((k:Int)=5)=(k=5):=propext (by omega)
 intro m
 induction m with
 | zero =>
  intro i hm hi
  refine At.tree (xpCtr_ok _ _) (PXp_eq k n s (Tm.cellsL l) (partD (ps.take i)) l.length i 0 0 [] [] [] (Tm.cellsL (ps.getD 0 [])) (Tm.cellsL (ps.getD 1 [])) (intC .i64 (intsT (ps.getD 0 []))) (intC .i64 (intsT (ps.getD 1 []))) (Tm.cellsL L)) ?_
  unfold PXp
  rw[List.take_of_length_le (show ps.length<=i by omega)]
  simp only[SS,e6,e5]
  refine⟨fun h=>by omega,fun _=>⟨fun h6=> ?_,fun h6=>⟨hend.2.1,fun h5=>hend.2.2 h5 h6⟩⟩⟩
  obtain⟨h2,hi⟩:=hend.1 h6
  have gl: ∀ i,(ps.getD i []).length<=1000:=fun i=>by
   rw[List.getD_eq_getElem?_getD]
   cases hq:ps[i]? with
   | none=>simp
   | some p=>exact hp p (List.mem_of_getElem? hq)
  have g0:=partD_getD (ps:=ps) (i:=0) (by omega)
  have g1:=partD_getD (ps:=ps) (i:=1) (by omega)
  exact⟨g0,ints_ok _ (gl 0),⟨by decide,g1⟩,ints_ok _ (gl 1),hi⟩
 | succ m ih =>
  intro i hm hi
  have h1:i<l.length:=by omega
  have h2:i<ps.length:=by omega
  have hx:=cellsL_get h1
  have hC:=H i h1 h2
  have hI:=ih (i+1) (by omega) (by omega)
  have ht:partD (ps.take (i+1))=partD (ps.take i)++[[.slice (Tm.cellsL ps[i]) []]]:=by
   rw[List.take_add_one,List.getElem?_eq_getElem h2]
   simp only[partD,List.map_append,Option.toList_some,List.map_cons,List.map_nil]
  rw[ht] at hI
  unfold ExpG at hC
  generalize l[i]=x at hx hC
  generalize ps[i]=e at hC hI
  obtain⟨kx,nx,sx,ax⟩:=x
  refine At.tree (xpCtr_ok _ _) (PXp_eq k n s (Tm.cellsL l) (partD (ps.take i)) l.length i kx nx sx (Tm.cellsL ax) (Tm.cellsL e) [] [] [] [] (Tm.cellsL L)) ?_
  unfold PXp
  have hlen:(partD (ps.take i)).length=i:=by rw[partD_len,List.length_take]; omega
  simp only[SS,hlen]
  exact⟨fun _=>⟨⟨by omega,hx⟩,hC,⟨by simp[allLen],by omega⟩,by omega,hI⟩,fun h=>by omega⟩
theorem expg_ok: ∀ (x:Tm) (L:List Tm),x.few 1000->x.all Tm.shape=true->x.all Tm.gr=true->x.xp=some L->ExpG x L
 | .mk k n s l,L,hx,hs0,hg0,h=>by
  have hs:=all_split.1 hs0
  have hg:=all_split.1 hg0
  have hc:=cop_ok _ hx
  simp only[Tm.few] at hx
  obtain⟨hl,hw⟩:=hx
  rw[Tm.xp] at h
  split at h
  ·rename_i he
   have he:l=[]:=List.isEmpty_iff.1 he
   subst he
   cases h
   have:FnOK Tryz.prog 40 [.agg (Tm.mk k n s []).cells] (.own 4 33 (Tm.cellsL [.mk k n s []])):=by
    refine FnOK.tree hdraw fp40 (ctr_ok (asmP_ok _) qnone_ok) (PExL_eq k n s) ?_
    unfold PExL
    exact⟨hc,rfl⟩
   exact FnOK.freezeG this
  ·rename_i he
   have he:l≠[]:=fun e=>he (by rw[e]; rfl)
   cases hps:Tm.xpL l with
   | none=>rw[hps] at h; cases h
   | some ps =>
    rw[hps] at h
    have hlen:=xpL_len hps
    have hp: ∀ p∈ps,p.length<=1000:=fun p hp=>(xpL_mem hps hp).elim fun x hx=>xp_len hx.2
    have hfit: ∀ i, ∀ c∈intsT (ps.getD i []),fitsB c=true:=fun i c hc=>by
     obtain⟨x,hx,hxi⟩:=intsT_mem.1 hc
     rw[List.getD_eq_getElem?_getD] at hx
     cases hq:ps[i]? with
     | none=>rw[hq] at hx; cases hx
     | some p =>
      rw[hq] at hx
      obtain⟨y,hy,hye⟩:=xpL_mem hps (List.mem_of_getElem? hq)
      exact int_shape (xp_value y p x (hs.2 y hy) (hg.2 y hy) hye hx).2.1 hxi
    have hil: ∀ i,(intsT (ps.getD i [])).length<=1000:=fun i=>by
     refine Nat.le_trans (intsT_le _) ?_
     rw[List.getD_eq_getElem?_getD]
     cases hq:ps[i]? with
     | none=>simp
     | some p=>exact hp p (List.mem_of_getElem? hq)
    have H: ∀ (i:Nat) (h:i<l.length) (h':i<ps.length),ExpG l[i] ps[i]:=fun i h h' =>
     have hm:l[i]∈l:=List.getElem_mem h
     expg_ok l[i] ps[i] (fewL_all.1 hw _ hm) (hs.2 _ hm) (hg.2 _ hm) (xpL_get hps i h h')
    have hend:XpEnd k s ps L:=by
     simp only[xpK] at h
     refine⟨fun h6=> ?_,fun h5=> ?_,fun h5 h6=> ?_⟩
     ·subst h6
      rw[if_pos rfl] at h
      cases hv:ivl (intsT (ps.getD 0 [])) (intsT (ps.getD 1 [])) with
      | none=>rw[hv] at h; cases h
      | some q =>
       rw[hv] at h
       cases h
       have:=iv_ok _ _ q (hil 0) (hil 1) (hfit 0) (hfit 1) hv
       rw[numC_map] at this
       exact⟨by rw[hlen]; exact shape_six hs.1,FnOK.freezeG this⟩
     ·subst h5
      rw[if_neg (by decide),if_pos rfl] at h
      exact opX_ok s ps L (by omega) hp h
     ·rw[if_neg h6,if_neg h5] at h
      exact fnX_ok s ps L (by omega) (fun e=>he (by rw[e] at hlen; exact List.length_eq_zero_iff.1 hlen.symm)) hp h
    have hA:=expg_at k n s l ps L hlen hl hp H hend _ 0 rfl (Nat.zero_le _)
    unfold ExpG
    clear hend H hfit hil hp hc hs hg hs0 hg0 h hps hw
    cases l with
    | nil=>exact absurd rfl he
    | cons x r =>
     refine FnOK.tree hdraw fp40 (ctr_ok libT_ok qnone_ok) (PExp_eq k n s x.cells (Tm.cellsL r)) ?_
     unfold PExp
     rw[ok_jmp]
     have e:(x.cells::Tm.cellsL r).length=(x::r).length:=by simp[cellsL_length]
     rw[e]
     exact hA
termination_by x=>SizeOf.sizeOf x
decreasing_by
 have:=List.sizeOf_lt_of_mem hm
 simp only[Tm.mk.sizeOf_spec]
 omega
end Go.Proofs.YtfoklncmfoogcaaGreatDoor
