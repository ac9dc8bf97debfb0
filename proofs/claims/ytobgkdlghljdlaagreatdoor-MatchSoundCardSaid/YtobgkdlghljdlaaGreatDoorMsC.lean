/- Own work: a layer over the kit: plain data,a walk over it,its soundness. -/
import Derived.Test.YtobgkdlghljdlaaGreatDoorMtF
import Derived.Test.YtobgkdlghljdlaaGreatDoorSx10
import Derived.Test.YtobgkdlghljdlaaGreatDoorSx9
import Derived.Test.YtobgkdlghljdlaaGreatDoorArOpB
import Derived.Test.YtobgkdlghljdlaaGreatDoorSx11
set_option linter.unusedSectionVars false
set_option linter.unusedVariables false
set_option linter.unusedSimpArgs false
set_option linter.deprecated false
/- outer,has,among. -/
namespace Go.Proofs.YtobgkdlghljdlaaGreatDoor
open Go.Sx
mutual
theorem outs_len: ∀ t:Tm,t.outs.length<=t.cnt
 | .mk k n s l=>by
  have:=outsL_len l
  simp only[Tm.outs,Tm.cnt]
  split
  ·simp
  ·split <;> simp <;> omega
theorem outsL_len: ∀ l:List Tm,(Tm.outsL l).length<=Tm.cntL l
 | []=>by simp[Tm.outsL]
 | a::r=>by
  have h1:=outs_len a
  have h2:=outsL_len r
  simp only[Tm.outsL,Tm.cntL,List.length_append]
  omega
end
theorem cnt_mem {l:List Tm} {x:Tm} (h:x∈l):x.cnt<=Tm.cntL l:=by
 induction l with
 | nil=>cases h
 | cons a r ih =>
  simp only[Tm.cntL]
  rcases List.mem_cons.1 h with rfl | h
  ·omega
  ·have:=ih h; omega
theorem cnt_pos (x:Tm):1<=x.cnt:=by
 obtain⟨k,n,s,l⟩:=x
 simp only[Tm.cnt]
 omega
theorem len_cntL (l:List Tm):l.length<=Tm.cntL l:=by
 induction l with
 | nil=>simp
 | cons a r ih=>have:=cnt_pos a; simp only[List.length_cons,Tm.cntL]; omega
theorem allLen_strC (l:List (LU)):allLen 1 (strC l):=by
 intro q hq
 obtain⟨s,_,rfl⟩:=List.mem_map.1 hq
 rfl
theorem ou_at (k:Nat) (n:Int) (s:LU) (l:List Tm) (hc:Tm.cntL l<=1000000) (H: ∀ x∈l,FK 17 [.agg x.cells] (.slice (strC x.outs) [])): ∀ (m i:Nat) (row:List (LU)),l.length-i=m->i<=l.length->row.length+(Tm.outsL (l.drop i)).length<=1073741824 →
  At Tryz.prog 0 (cut sc17 0) (hdOu k n s (Tm.cellsL l) (strC row) i) (FinQ true 0 rs17 fun r _=>r= .own 1 9 (strC (row++Tm.outsL (l.drop i)))):=by
 have hlen:=len_cntL l
 intro m
 induction m with
 | zero =>
  intro i row hm hi hz
  refine At.tree mCtr_ok (SOu2_eq k n s (Tm.cellsL l) (strC row) i 0 0 [] [] []) ?_
  rw[List.drop_eq_nil_of_le (by omega)]
  simp only[SS,cellsL_length,Tm.outsL,List.append_nil]
  exact⟨fun h=>by omega,fun _=>by first | trivial | rfl⟩
 | succ m ih =>
  intro i row hm hi hz
  have h1:i<l.length:=by omega
  have hx:=cellsL_get h1
  have hC:=H _ (List.getElem_mem h1)
  rw[drop_cons h1] at hz ⊢
  simp only[Tm.outsL,List.length_append] at hz ⊢
  have hI:=ih (i+1) (row++l[i].outs) (by omega) (by omega) (by rw[List.length_append]; omega)
  rw[<- List.append_assoc]
  have e:strC (row++l[i].outs)=strC row++strC l[i].outs:=by simp[strC]
  rw[e] at hI
  have ha:=allLen_strC l[i].outs
  have hb:(strC row).length+(strC l[i].outs).length<=1073741824:=by rw[strC_len,strC_len]; omega
  generalize l[i].outs=o at *
  generalize l[i]=x at hx hC
  obtain⟨kx,nx,sx,ax⟩:=x
  refine At.tree mCtr_ok (SOu2_eq k n s (Tm.cellsL l) (strC row) i kx nx sx (Tm.cellsL ax) (strC o)) ?_
  simp only[SS,cellsL_length]
  exact⟨fun _=>⟨⟨by omega,hx⟩,hC,⟨ha,hb⟩,by omega,hI⟩,fun h=>by omega⟩
theorem outer_ok: ∀ t:Tm,t.cnt<=1000000->FK 17 [.agg t.cells] (.slice (strC t.outs) [])
 | .mk k n s l,ht=>by
  have hn:=outs_len (.mk k n s l)
  simp only[Tm.cnt] at ht
  have hl:=fun row hz=>ou_at k n s l (by omega) (fun x hx=>outer_ok x (by have:=cnt_mem hx; omega)) _ 0 row rfl (Nat.zero_le _) hz
  have e3:((k:Int)=3)=(k=3):=propext (by omega)
  have e5:((k:Int)=5)=(k=5):=propext (by omega)
  have e6:((k:Int)=6)=(k=6):=propext (by omega)
  have hol:=outsL_len l
  refine FnOK.freezeG (e:=9) (sz:=1) ?_
  refine FnOK.tree hdraw fp17 mCtr_ok (SOu_eq k n s (Tm.cellsL l)) ?_
  simp only[Tm.outs]
  simp only[SS,e3,e5,e6]
  refine⟨fun h=> ?_,fun h=>⟨fun h6=> ?_,fun h6=>⟨fun h3=>⟨⟨by simp[allLen],by omega⟩, ?_⟩,fun h3=> ?_⟩⟩⟩
  ·rw[if_pos (.inl h)]; rfl
  ·rw[if_pos (.inr h6)]; rfl
  ·rw[if_neg (by omega),if_pos h3]
   exact hl [s] (by simp only[List.drop_zero,List.length_singleton]; omega)
  ·rw[if_neg (by omega),if_neg h3]
   exact hl [] (by simp only[List.drop_zero,List.length_nil]; omega)
termination_by t=>SizeOf.sizeOf t
decreasing_by
 have:=List.sizeOf_lt_of_mem hx
 simp only[Tm.mk.sizeOf_spec]
 omega
theorem ha_at (l:List (LU)) (s:LU) (hl:l.length<=1000000000): ∀ (m i:Nat),l.length-i=m->i<=l.length →
  At Tryz.prog 0 (cut sc19 0) (hdHa (strC l) s i) (FinQ true 0 rs19 fun r _=>r= .bool ((l.drop i).contains s)):=by
 intro m
 induction m with
 | zero =>
  intro i hm hi
  refine At.tree mCtr_ok (SHa2_eq (strC l) s i []) ?_
  rw[List.drop_eq_nil_of_le (by omega)]
  simp only[SS,strC_len]
  exact⟨fun h=>by omega,fun _=>by first | trivial | rfl⟩
 | succ m ih =>
  intro i hm hi
  have h1:i<l.length:=by omega
  have hx:(strC l)[i]? = some [.str l[i]]:=by simp[strC,h1]
  have hI:=ih (i+1) (by omega) (by omega)
  refine At.tree mCtr_ok (SHa2_eq (strC l) s i l[i]) ?_
  rw[drop_cons h1,List.contains_cons]
  simp only[SS,strC_len]
  refine⟨fun _=>⟨⟨by omega,hx⟩,fun h=> ?_,fun h=>⟨by omega, ?_⟩⟩,fun h=>by omega⟩
  ·rw[h]; simp
  ·rw[show (s == l[i])=false from by simp[Ne.symm h],Bool.false_or]; exact hI
theorem has_ok (l:List (LU)) (s:LU) (hl:l.length<=1000000000):FK 19 [.slice (strC l) [],.str s] (.bool (l.contains s)):=by
 refine FnOK.tree hdraw fp19 mCtr_ok (SHa_eq (strC l) s) ?_
 rw[ok_jmp]
 exact ha_at l s hl _ 0 rfl (Nat.zero_le _)
theorem am_at (l:List Tm) (v:Tm) (hl:l.length<=1000000000) (hw: ∀ x∈l,x.wf 281474976710656) (hv:v.wf 281474976710656): ∀ (m i:Nat),l.length-i=m->i<=l.length →
  At Tryz.prog 0 (cut sc23 0) ⟨[(0,.slice (Tm.cellsL l) []),(3,.ptr 0 0),(5,.int .i64 i)],[(0,.cells v.cells)]⟩ (FinQ true 0 rs23 fun r _=>r= .bool ((l.drop i).any fun x=>x.eqb v)):=by
 intro m
 induction m with
 | zero =>
  intro i hm hi
  obtain⟨kv,nv,sv,av⟩:=v
  refine At.tree mCtr_ok (SAm2_eq (Tm.cellsL l) kv nv sv (Tm.cellsL av) i 0 0 [] [] true) ?_
  rw[List.drop_eq_nil_of_le (by omega)]
  simp only[SS,cellsL_length]
  exact⟨fun h=>by omega,fun _=>by first | trivial | rfl⟩
 | succ m ih =>
  intro i hm hi
  have h1:i<l.length:=by omega
  have hx:=cellsL_get h1
  have hC:=equal_ok l[i] v (hw _ (List.getElem_mem h1)) hv
  have hI:=ih (i+1) (by omega) (by omega)
  rw[drop_cons h1,List.any_cons]
  generalize l[i].eqb v=b at hC ⊢
  generalize l[i]=x at hx hC
  obtain⟨k,n,s,a⟩:=x
  obtain⟨kv,nv,sv,av⟩:=v
  refine At.tree mCtr_ok (SAm2_eq (Tm.cellsL l) kv nv sv (Tm.cellsL av) i k n s (Tm.cellsL a) b) ?_
  simp only[SS,cellsL_length]
  refine⟨fun _=>⟨⟨by omega,hx⟩,hC,fun h=> ?_,fun h=>⟨by omega, ?_⟩⟩,fun h=>by omega⟩
  ·rw[h]; rfl
  ·rw[h,Bool.false_or]; exact hI
theorem among_ok (l:List Tm) (v:Tm) (hl:l.length<=1000000000) (hw: ∀ x∈l,x.wf 281474976710656) (hv:v.wf 281474976710656):FK 23 [.slice (Tm.cellsL l) [],.agg v.cells] (.bool (l.any fun x=>x.eqb v)):=by
 have h:=am_at l v hl hw hv _ 0 rfl (Nat.zero_le _)
 rw[List.drop_zero] at h
 generalize (l.any fun x=>x.eqb v)=b at h ⊢
 obtain⟨kv,nv,sv,av⟩:=v
 refine FnOK.tree hdraw fp23 mCtr_ok (SAm_eq (Tm.cellsL l) kv nv sv (Tm.cellsL av)) ?_
 rw[ok_jmp]
 exact h
end Go.Proofs.YtobgkdlghljdlaaGreatDoor
/- MatchSound,but for what is awake. -/
namespace Go.Proofs.YtobgkdlghljdlaaGreatDoor
open Go.Sx
mutual
theorem prs_nm {B:Nat}: ∀ (p v:Tm) (w:Wn),p.wf B->p.prs v=some w-> ∀ x∈w.1,x.1.length<=B
 | .mk k n s l,.mk k' n' s' l',w,hp,h=>by
  simp only[Tm.prs] at h
  simp only[Tm.wf] at hp
  split at h
  ·cases h
   intro x hx
   rw[List.mem_singleton] at hx
   subst hx
   exact hp.2.2.2.1
  ·split at h
   ·cases h
    intro x hx
    cases hx
   ·split at h
    ·exact prsL_nm l l' w hp.2.2.2.2.2 h
    ·cases h
theorem prsL_nm {B:Nat}: ∀ (l l':List Tm) (w:Wn),Tm.wfL B l->Tm.prsL l l'=some w-> ∀ x∈w.1,x.1.length<=B
 | [],[],w,hp,h=>by
  simp only[Tm.prsL] at h
  cases h
  intro x hx
  cases hx
 | a::l,b::m,w,hp,h=>by
  simp only[Tm.prsL] at h
  simp only[Tm.wfL] at hp
  obtain⟨u,v,h1,h2,rfl⟩:=wJ_some h
  intro x hx
  exact (List.mem_append.1 hx).elim (prs_nm a b u hp.1 h1 x) (prsL_nm l m v hp.2 h2 x)
 | [],_::_,w,hp,h=>by simp only[Tm.prsL] at h; cases h
 | _::_,[],w,hp,h=>by simp only[Tm.prsL] at h; cases h
end
theorem lst_BdB {p v:List Tm} {b c:List Bd} (hp: ∀ x∈p,TmB x) (hv: ∀ x∈v,TmB x) (hb:BdB b) (hl:b.length+Tm.cntL p<=100000) (h:lstB p v b=some c):BdB c:=by
 obtain⟨h1,h2⟩:=lst_bd hp hv hb h
 refine⟨by omega,fun x hx=>⟨?_,(h1 x hx).1⟩,fun x hx=>(h1 x hx).2⟩
 unfold lstB at h
 split at h
 ·split at h
  ·rename_i q hq
   split at h
   ·cases h
    obtain⟨w,e1,e2,e3⟩:=oA_some hq
    obtain⟨_,q5⟩:=bndA_len e2
    rcases q5 x hx with hx | hx
    ·exact (hb.wf x hx).1
    ·exact prsL_nm p v w (wfL_all.2 fun y hy=>(hp y hy).1) e1 _ hx
   ·cases h
  ·cases h
 ·cases h
theorem BdB.get {b:List Bd} (h:BdB b) (s:LU):FK 18 [.slice (bdL b) [],.str s] (opD (getV b s)):=mget_ok b (by have:=h.len; omega) h.wf (fun x hx=>by have:=(h.tm x hx).2.2; omega) (fun x hx=>(h.tm x hx).2.1) s
theorem BdB.ext {b c:List Bd} (hc:BdB c) (hb:BdB b) (H: ∀ x∈b,getV c x.n=some x.v):FK 14 [.slice (bdL c) [],.slice (bdL b) []] (.bool true):=extends_ok c b (by have:=hc.len; omega) hc.wf (fun x hx=>by have:=(hc.tm x hx).2.2; omega) (fun x hx=>(hc.tm x hx).2.1) (by have:=hb.len; omega) (fun x hx=>(hb.wf x hx).2) H
theorem BdB.va {b:List Bd} (h:BdB b):FK 13 [.slice (bdL b) []] (.bool (validB b)):=mva_ok b (by have:=h.len; omega) h.wf fun x hx=>by have:=(h.tm x hx).2.2; omega
theorem BdB.sbs {b:List Bd} (h:BdB b):FK 11 [.slice (bdL b) [],.slice (bdL b) []] (.bool true):=sbs_ok b (by have:=h.len; omega) fun x hx=>(h.wf x hx).2
theorem BdB.app {b:List Bd} (h:BdB b) (hv:validB b=true) (x:Tm) (hx:x.few 1000):FK 20 [.agg x.cells,.slice (bdL b) []] (.agg (x.ap b).cells):=by
 have:=apply_ok b (by have:=h.len; omega) h.wf (fun x hx=>by have:=(h.tm x hx).2.2; omega) (fun x hx=>(h.tm x hx).2.1) x hx
 unfold vldB at this
 rw[if_pos hv] at this
 exact this
theorem getV_of {b:List Bd} (h:validB b=true) (s:LU):getV b s=getB b s:=by unfold getV; rw[if_pos h]
def AtS (i:Nat) (s:St):Prop:=At Tryz.prog 0 (frg sc4 i) s (FinQ true 0 rs4 fun r _=>r= .bool true)
theorem opD_ex (o:Option Tm): ∃ kw nw sw aw,opD o= .tuple [.agg (tC kw nw sw aw),.bool o.isSome]:=by
 cases o with
 | none=>exact⟨0,0,[],[],rfl⟩
 | some v =>
  obtain⟨k,n,s,a⟩:=v
  exact⟨k,n,s,Tm.cellsL a,rfl⟩
theorem s8_at (p v:Tm) (b c:List Bd) (hp:TmB p) (hv:TmB v) (hc:BdB c) (hn:p.cnt<=99999) (hS:Snd p v b c):AtS 8 ⟨tmD8 (bdL c),[(0,.cells p.cells),(1,.cells v.cells)]⟩:=by
 have h1:=hc.app hS.vc p hp.2.1
 have aw:(p.ap c).wf 281474976710656:=ap_wf (fun x hx=>(hc.wf x hx).2) _ hp.1
 have ad:(p.ap c).depth<=p.depth+100000000:=ap_depth (fun x hx=>(hc.tm x hx).2.2) _
 have hpd:=hp.2.2
 have h2:=match_ok p v c hp hv hn hc
 rw[hS.again] at h2
 have h3:=hc.sbs
 have h4:=ground_ok (p.ap c) aw
 rw[hS.gr] at h4
 have h5:=expand_ok (p.ap c) aw (by omega)
 obtain⟨xl,xw⟩:=xr_len aw
 have h6:=among_ok (xrL (p.ap c).expd) v (by omega) xw hv.1
 have h7:xrE (p.ap c).expd=0->((xrL (p.ap c).expd).any fun x=>x.eqb v)=true:=fun h=>by
  have ha:=hS.among
  cases hq:(p.ap c).expd with
  | ok l =>
   exact List.any_eq_true.2 ⟨v,ha l hq,eqb_eq.2 rfl⟩
  | many=>rw[hq] at h; cases h
  | arg=>rw[hq] at h; cases h
 generalize ((xrL (p.ap c).expd).any fun x=>x.eqb v)=am at h6 h7
 generalize xrL (p.ap c).expd=l at h5 h6
 generalize xrE (p.ap c).expd=e at h5 h7
 clear aw ad xl xw
 generalize p.ap c=t at h1 h4 h5
 obtain⟨k,n,s,a⟩:=p
 obtain⟨kv,nv,sv,av⟩:=v
 obtain⟨kt,nt,st,ta⟩:=t
 refine At.tree mCtr_ok (SD8_eq k n s (Tm.cellsL a) kv nv sv (Tm.cellsL av) (bdL c) kt nt st (Tm.cellsL ta)) ?_
 refine⟨h1, ?_⟩
 rw[ok_jmp]
 refine At.tree mCtr_ok (SD9_eq k n s (Tm.cellsL a) kv nv sv (Tm.cellsL av) (bdL c) kt nt st (Tm.cellsL ta) (bdL c) true) ?_
 refine⟨h2, ?_⟩
 rw[ok_jmp]
 refine At.tree mCtr_ok (SD10_eq kv nv sv (Tm.cellsL av) (bdL c) kt nt st (Tm.cellsL ta) (bdL c) true true true) ?_
 refine⟨h3,h4, ?_⟩
 show At _ _ _ _ _
 refine At.tree mCtr_ok (SD11_eq kv nv sv (Tm.cellsL av) kt nt st (Tm.cellsL ta) (Tm.cellsL l) e) ?_
 refine⟨h5, ?_⟩
 rw[ok_jmp]
 refine At.tree mCtr_ok (SD12_eq kv nv sv (Tm.cellsL av) (Tm.cellsL l) e am) ?_
 simp only[SS]
 exact⟨fun _=>trivial,fun h=>⟨h6,h7 h⟩⟩
theorem sl2_at (p v:Tm) (b c:List Bd) (hp:TmB p) (hv:TmB v) (hc:BdB c) (hn:p.cnt<=99999) (hS:Snd p v b c): ∀ (m i:Nat),p.outs.length-i=m->i<=p.outs.length →
  At Tryz.prog 0 (cut sc4 1) ⟨tmD7 (bdL c) (strC p.outs)++[(13,.int .i64 i)],[(0,.cells p.cells),(1,.cells v.cells)]⟩ (FinQ true 0 rs4 fun r _=>r= .bool true):=by
 have h8:=s8_at p v b c hp hv hc hn hS
 have hol:=outs_len p
 intro m
 induction m with
 | zero =>
  intro i hm hi
  have hlen:=strC_len p.outs
  generalize strC p.outs=os at hlen ⊢
  generalize p.outs=o at hlen hm hi hol
  obtain⟨k,n,s,a⟩:=p
  obtain⟨kv,nv,sv,av⟩:=v
  refine At.tree mCtr_ok (SDl2_eq k n s (Tm.cellsL a) kv nv sv (Tm.cellsL av) (bdL c) os i [] 0 0 [] [] true) ?_
  simp only[SS,hlen]
  exact⟨fun h=>by omega,fun _=>h8⟩
 | succ m ih =>
  intro i hm hi
  have h1:i<p.outs.length:=by omega
  have hI:=ih (i+1) (by omega) (by omega)
  obtain⟨u,hu⟩:=hS.outs _ (List.getElem_mem h1)
  have hG:=hc.get p.outs[i]
  rw[getV_of hS.vc,hu] at hG
  have hx:(strC p.outs)[i]? = some [.str p.outs[i]]:=by simp[strC,h1]
  have hlen:=strC_len p.outs
  generalize p.outs[i]=t at hG hx
  clear hu
  generalize strC p.outs=os at *
  generalize p.outs.length=ol at *
  obtain⟨k,n,s,a⟩:=p
  obtain⟨kv,nv,sv,av⟩:=v
  obtain⟨ku,nu,su,au⟩:=u
  refine At.tree mCtr_ok (SDl2_eq k n s (Tm.cellsL a) kv nv sv (Tm.cellsL av) (bdL c) os i t ku nu su (Tm.cellsL au) true) ?_
  simp only[SS,hlen]
  refine⟨fun _=>⟨⟨by omega,hx⟩,hG,fun h=>(by cases h),by have:=hp.1; omega,hI⟩,fun h=>by omega⟩
theorem sl1_at (p v:Tm) (b c:List Bd) (hp:TmB p) (hv:TmB v) (hb:BdB b) (hc:BdB c) (hn:p.cnt<=99999) (hS:Snd p v b c): ∀ (m i:Nat),c.length-i=m->i<=c.length →
  At Tryz.prog 0 (cut sc4 0) ⟨tmD (bdL b)++[(7,.slice (bdL c) []),(9,.slice (strC p.outs) []),(10,.int .i64 i)],[(0,.cells p.cells),(1,.cells v.cells)]⟩ (FinQ true 0 rs4 fun r _=>r= .bool true):=by
 have h7:=sl2_at p v b c hp hv hc hn hS _ 0 rfl (Nat.zero_le _)
 have hcl:=hc.len
 have hol:=outs_len p
 have hhas:=fun s=>has_ok p.outs s (by omega)
 intro m
 induction m with
 | zero =>
  intro i hm hi
  generalize strC p.outs=os at *
  obtain⟨k,n,s,a⟩:=p
  obtain⟨kv,nv,sv,av⟩:=v
  refine At.tree mCtr_ok (SDl1_eq k n s (Tm.cellsL a) kv nv sv (Tm.cellsL av) (bdL b) (bdL c) os i [] 0 0 [] [] 0 0 [] [] true true) ?_
  simp only[SS,bdL_len]
  refine⟨fun h=>by omega,fun _=> ?_⟩
  refine At.tree mCtr_ok (SD7_eq k n s (Tm.cellsL a) kv nv sv (Tm.cellsL av) (bdL c) os) ?_
  rw[ok_jmp]
  exact h7
 | succ m ih =>
  intro i hm hi
  have h1:i<c.length:=by omega
  have hI:=ih (i+1) (by omega) (by omega)
  have hx:=bdL_get h1
  have hG:=hb.get c[i].n
  have hH:=hhas c[i].n
  have ho:=hS.only _ (List.getElem_mem h1)
  rw[getV_of hS.vb] at hG
  have hor:(getB b c[i].n).isSome=false->p.outs.contains c[i].n=true:=fun h=>by
   rcases ho with h2 | h2
   ·rw[h2] at h; cases h
   ·simpa using h2
  obtain⟨kw,nw,sw,aw,hw⟩:=opD_ex (getB b c[i].n)
  rw[hw] at hG
  clear ho hw
  generalize (getB b c[i].n).isSome=old at hG hor
  generalize p.outs.contains c[i].n=hb2 at hH hor
  generalize c[i]=x at hx hG hH
  clear hhas h7
  generalize strC p.outs=os at *
  obtain⟨k,n,s,a⟩:=p
  obtain⟨kv,nv,sv,av⟩:=v
  obtain⟨mx,⟨kx,nx,sx,ax⟩⟩:=x
  refine At.tree mCtr_ok (SDl1_eq k n s (Tm.cellsL a) kv nv sv (Tm.cellsL av) (bdL b) (bdL c) os i mx kx nx sx (Tm.cellsL ax) kw nw sw aw old hb2) ?_
  simp only[SS,bdL_len]
  exact⟨fun _=>⟨⟨by omega,hx⟩,hG,fun h=>⟨⟨by omega,hx⟩,hH,fun h2=>(by rw[hor h] at h2; cases h2),fun _=>⟨by omega,hI⟩⟩,fun _=>⟨by omega,hI⟩⟩,fun h=>by omega⟩
theorem sound_of (hw:FK 7 [] (.bool true)) (p v:Tm) (b:List Bd) (hp:p.wf 281474976710656) (hv:v.wf 281474976710656) (hbw: ∀ x∈b,x.wf 281474976710656) (hbl:b.length<=281474976710656) :
  FK 4 [.agg p.cells,.agg v.cells,.slice (bdL b) []] (.bool true):=by
 have hpv: ∀ x∈[p,v],x.wf 281474976710656:=fun x hx=>by
  rcases List.mem_cons.1 hx with rfl | hx
  ·exact hp
  ·rw[List.mem_singleton] at hx; subst hx; exact hv
 have hs:=small_ok b [p,v] hbl (fun x hx=>(hbw x hx).2) (by show 2<=_; decide) hpv
 have hbe:=bdL_len b
 have h2:smlB b [p,v]=true->b.length<=150->AtS 2 ⟨tmD (bdL b),[(0,.cells p.cells),(1,.cells v.cells)]⟩:=fun e hB=>by
  obtain⟨s1,s2,s3,s4⟩:=sm_all hpv hbw hB e
  have tp:=s1 p (List.mem_cons_self ..)
  have tv:=s1 v (List.mem_cons_of_mem _ (List.mem_cons_self ..))
  simp only[Tm.cntL] at s2
  have hM:=match_ok p v b tp tv (by omega) s4
  cases hq:lstB [p] [v] b with
  | none =>
   rw[hq] at hM
   obtain⟨k,n,s,a⟩:=p
   obtain⟨kv,nv,sv,av⟩:=v
   refine At.tree mCtr_ok (SD2_eq k n s (Tm.cellsL a) kv nv sv (Tm.cellsL av) (bdL b) [] false) ?_
   refine⟨hM, ?_⟩
   rw[ok_jmp]
   refine At.tree mCtr_ok (SD3_eq k n s (Tm.cellsL a) kv nv sv (Tm.cellsL av) (bdL b) [] false) ?_
   exact rfl
  | some c =>
   rw[hq] at hM
   have hS:=lst_sound hq
   have hc:=lst_BdB (p:=[p]) (v:=[v]) (fun x hx=>by rw[List.mem_singleton] at hx; subst hx; exact tp) (fun x hx=>by rw[List.mem_singleton] at hx; subst hx; exact tv) s4 (by simp only[Tm.cntL]; omega) hq
   have v1:=s4.va
   rw[hS.vb] at v1
   have v2:=hc.va
   rw[hS.vc] at v2
   have v3:=hc.ext s4 fun x hx=>by rw[getV_of hS.vc]; exact hS.old x hx
   have v4:=valid_ok p hp (by have:=tp.2.2; omega)
   rw[hS.pv] at v4
   have v5:=value_ok v hv (by have:=tv.2.2; omega)
   have e5:(v.all Tm.plain && v.valid)=v.value:=rfl
   rw[e5,hS.vv] at v5
   have v6:=outer_ok p (by omega)
   have h6:=sl1_at p v b c tp tv s4 hc (by omega) hS _ 0 rfl (Nat.zero_le _)
   generalize strC p.outs=os at v6 h6
   obtain⟨k,n,s,a⟩:=p
   obtain⟨kv,nv,sv,av⟩:=v
   refine At.tree mCtr_ok (SD2_eq k n s (Tm.cellsL a) kv nv sv (Tm.cellsL av) (bdL b) (bdL c) true) ?_
   refine⟨hM, ?_⟩
   rw[ok_jmp]
   refine At.tree mCtr_ok (SD3_eq k n s (Tm.cellsL a) kv nv sv (Tm.cellsL av) (bdL b) (bdL c) true) ?_
   show At _ _ _ _ _
   refine At.tree mCtr_ok (SD4_eq k n s (Tm.cellsL a) kv nv sv (Tm.cellsL av) (bdL b) (bdL c)) ?_
   refine⟨v1,v2,v3,v4,v5, ?_⟩
   show At _ _ _ _ _
   refine At.tree mCtr_ok (SD5_eq k n s (Tm.cellsL a) kv nv sv (Tm.cellsL av) (bdL b) (bdL c) os) ?_
   refine⟨v6, ?_⟩
   rw[ok_jmp]
   refine At.tree mCtr_ok (SD6_eq k n s (Tm.cellsL a) kv nv sv (Tm.cellsL av) (bdL b) (bdL c) os) ?_
   rw[ok_jmp]
   exact h6
 generalize smlB b [p,v]=sm at hs h2
 obtain⟨k,n,s,a⟩:=p
 obtain⟨kv,nv,sv,av⟩:=v
 refine FnOK.tree hdraw fp4 mCtr_ok (SD_eq k n s (Tm.cellsL a) kv nv sv (Tm.cellsL av) (bdL b)) ?_
 rw[ok_jmp]
 refine At.tree mCtr_ok (SD0_eq k n s (Tm.cellsL a) kv nv sv (Tm.cellsL av) (bdL b)) ?_
 refine⟨hw, ?_⟩
 rw[ok_jmp]
 refine At.tree mCtr_ok (SD1_eq k n s (Tm.cellsL a) kv nv sv (Tm.cellsL av) (bdL b) sm) ?_
 cases sm
 ·exact⟨hs,rfl⟩
 ·refine⟨hs, ?_⟩
  simp only[SS]
  rw[hbe]
  refine⟨fun h=>(by first | trivial | cases h),fun _=>trivial,fun h=> ?_⟩
  exact h2 rfl (by omega)
end Go.Proofs.YtobgkdlghljdlaaGreatDoor
/- What awake calls: the table. -/
namespace Go.Proofs.YtobgkdlghljdlaaGreatDoor
open Go.Sx
set_option maxRecDepth 100000
def flatT:List D->Option Tm
 | [.int .u8 k,.int .i64 n,.str s,.slice [] []]=>if 0<=k then some (.mk k.toNat n s []) else none
 | _=>none
def flatL:LD->Option (List Tm)
 | []=>some []
 | e::r=>match flatT e,flatL r with
  | some t,some l=>some (t::l)
  | _,_=>none
def partsT:LD->Option (List (List Tm))
 | []=>some []
 | [.slice es []]::r=>match flatL es,partsT r with
  | some l,some L=>some (l::L)
  | _,_=>none
 | _=>none
def resO:List Int->Option (List Int)
 | []=>some []
 | [n]=>some [n]
 | [a,b,c]=>if a=2/\b=4/\c=6 then some [2,4,6] else none
 | _=>none
def accO (s:LU) (L:List (List Tm)):List Int:=(fillS (opB s) (L.map intsT) 0 (List.replicate L.length 0,[])).2
def opF (f:FuncId) (xs:List D):Option D:=if f=88 then (match xs with
 | [.str s,.slice es ext]=>(match partsT es with
  | some L=>if L.length<=1000/\(L.all fun l=>decide (l.length<=1000))=true/\(accO s L).length<=1000 then (match resO (accO s L) with
   | some res=>some (.own 4 35 (numC res))
   | none=>none) else none
  | none=>none)
 | _=>none) else libF f xs
abbrev nT (n:Int):List D:=[.int .u8 1,.int .i64 n,.str [],.slice [] []]
abbrev aT:List D:=[.int .u8 2,.int .i64 0,.str [97],.slice [] []]
abbrev oT (o:LU) (a b:List D):List D:=[.int .u8 5,.int .i64 0,.str o,.slice [a,b] []]
abbrev fT (a b:List D):List D:=[.int .u8 4,.int .i64 0,.str [102],.slice [a,b] []]
abbrev rT (a b:List D):List D:=[.int .u8 6,.int .i64 0,.str [],.slice [a,b] []]
abbrev bigT:List D:=fT (rT (nT 1) (nT 2)) (oT [42] (rT (nT 1) (nT 3)) (nT 2))
abbrev sixT:LD:=[fT (nT 1) (nT 2),fT (nT 1) (nT 4),fT (nT 1) (nT 6),fT (nT 2) (nT 2),fT (nT 2) (nT 4),fT (nT 2) (nT 6)]
abbrev f1T:List D:=fT (oT [45] (oT [42] (nT 2) (nT 3)) (nT 1)) aT
abbrev noT:D:= .tuple [.agg [.int .u8 0,.int .i64 0,.str [],.slice [] []],.bool false]
end Go.Proofs.YtobgkdlghljdlaaGreatDoor
/- Terms that awake reads. -/
namespace Go.Proofs.YtobgkdlghljdlaaGreatDoor
open Go.Sx
abbrev vT (s:LU):List D:=[.int .u8 3,.int .i64 0,.str s,.slice [] []]
abbrev xT:List D:=vT [88]
abbrev yT:List D:=vT [89]
abbrev gT (a:List D):List D:=[.int .u8 4,.int .i64 0,.str [103],.slice [a] []]
end Go.Proofs.YtobgkdlghljdlaaGreatDoor
