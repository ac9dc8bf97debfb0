/- Own work: a layer over the kit: plain data,a walk over it,its soundness. -/
import Derived.Test.YtobgkdlghljdlaaGreatDoorMtE
import Derived.Test.YtobgkdlghljdlaaGreatDoorSx8
import Derived.Test.YtobgkdlghljdlaaGreatDoorArXpE
set_option linter.unusedSectionVars false
set_option linter.unusedVariables false
set_option linter.unusedSimpArgs false
set_option linter.deprecated false
set_option maxRecDepth 100000
/- The law of bindings: trees. -/
namespace Go.Proofs.YtobgkdlghljdlaaGreatDoor
open Go.Sx
abbrev obV (k n:Int) (s:LU) (a:LD) (kv nv:Int) (sv:LU) (av:LD):Obs:=[(0,.cells (tC k n s a)),(1,.cells (tC kv nv sv av))]
abbrev tmV (es:LD) (nm:LU):List (Nat × D):=[(2,.slice es []),(3,.str nm),(4,.ptr 0 0),(5,.ptr 1 0)]
abbrev tmT:List (Nat × D):=[(4,.ptr 0 0),(5,.ptr 1 0)]
end Go.Proofs.YtobgkdlghljdlaaGreatDoor
/- The law of bindings,but for what is awake. -/
namespace Go.Proofs.YtobgkdlghljdlaaGreatDoor
open Go.Sx
theorem sm_at (b:List Bd) (hl:b.length<=281474976710656) (hw: ∀ x∈b,x.v.wf 281474976710656): ∀ (m i:Nat) (nn:Int),b.length-i=m->i<=b.length->0<=nn →
  At Tryz.prog 0 (cut sc8 0) (hdSm (bdL b) nn i) (FinQ true 0 rs8 fun r _=>r= .bool (decide (smB (b.drop i) nn<=150))):=by
 intro m
 induction m with
 | zero =>
  intro i nn hm hi h0
  refine At.tree mCtr_ok (MSm2_eq (bdL b) nn i [] 0 0 [] [] 0) ?_
  rw[List.drop_eq_nil_of_le (by omega)]
  simp only[SS,bdL_len,smB]
  exact⟨fun h=>by omega,fun _=>by first | rfl | trivial⟩
 | succ m ih =>
  intro i nn hm hi h0
  have h1:i<b.length:=by omega
  have hx:=bdL_get h1
  have hc:=sz_ok b[i].v (hw _ (List.getElem_mem h1)) 150 (by decide) (by decide)
  have g1:=sz_ge b[i].v 150
  have g2:=sz_le b[i].v 150 (by decide)
  have hI:=ih (i+1) (nn+b[i].v.sz 150) (by omega) (by omega) (by omega)
  have hD:smB (b.drop i) nn=if nn<=150 then smB (b.drop (i+1)) (nn+b[i].v.sz 150) else nn:=by rw[drop_cons h1,smB]
  by_cases hn:nn<=150
  ·rw[if_pos hn] at hD
   rw[hD]
   generalize decide (smB (b.drop (i+1)) (nn+b[i].v.sz 150)<=150)=r at hI ⊢
   clear hD
   generalize b[i].v.sz 150=c at hc g1 g2 hI
   generalize b[i]=x at hx hc
   obtain⟨nm,⟨k,n,s,a⟩⟩:=x
   refine At.tree mCtr_ok (MSm2_eq (bdL b) nn i nm k n s (Tm.cellsL a) c) ?_
   simp only[SS,bdL_len]
   exact⟨fun _=>⟨fun _=>⟨⟨by omega,hx⟩,hc,by omega,by omega,hI⟩,fun h=>by omega⟩,fun h=>by omega⟩
  ·rw[if_neg hn] at hD
   rw[hD]
   refine At.tree mCtr_ok (MSm2_eq (bdL b) nn i [] 0 0 [] [] 0) ?_
   simp only[SS,bdL_len]
   exact⟨fun _=>⟨fun h=>by omega,fun _=>by first | rfl | trivial⟩,fun h=>by omega⟩
def smlB (b:List Bd) (l:List Tm):Bool:=decide (smB b (Tm.szL l 150 0)<=150)
theorem small_ok (b:List Bd) (l:List Tm) (hb:b.length<=281474976710656) (hw: ∀ x∈b,x.v.wf 281474976710656) (hl:l.length<=281474976710656) (hwl: ∀ x∈l,x.wf 281474976710656):FK 8 [.slice (bdL b) [],.slice (Tm.cellsL l) []] (.bool (smlB b l)):=by
 have h1:=szs_ok l hl (fun x hx=>sz_ok x (hwl x hx)) 150 (by decide)
 have h0:=szL_ge l 150 0
 unfold smlB
 generalize Tm.szL l 150 0=c at h1 h0 ⊢
 refine FnOK.tree hdraw fp8 mCtr_ok (MSm_eq (bdL b) (Tm.cellsL l) c) ?_
 refine⟨h1, ?_⟩
 rw[ok_jmp]
 exact sm_at b hb hw _ 0 c rfl (Nat.zero_le _) h0
theorem ex_at (c b:List Bd) (hl:c.length<=1000000) (hw: ∀ x∈c,x.wf 281474976710656) (hd: ∀ x∈c,x.v.depth<=1000000000) (hf: ∀ x∈c,x.v.few 1000) (hbl:b.length<=281474976710656) (hbw: ∀ x∈b,x.v.wf 281474976710656) (H: ∀ x∈b,getV c x.n=some x.v): ∀ (m i:Nat),b.length-i=m->i<=b.length →
  At Tryz.prog 0 (cut sc14 0) (hdExt (bdL c) (bdL b) i) (FinQ true 0 rs14 fun r _=>r= .bool true):=by
 intro m
 induction m with
 | zero =>
  intro i hm hi
  refine At.tree mCtr_ok (MEx2_eq (bdL c) (bdL b) i [] 0 0 [] []) ?_
  simp only[SS,bdL_len]
  exact⟨fun h=>by omega,fun _=>by first | rfl | trivial⟩
 | succ m ih =>
  intro i hm hi
  have h1:i<b.length:=by omega
  have hx:=bdL_get h1
  have hg:=mget_ok c hl hw hd hf b[i].n
  have hm':=List.getElem_mem h1
  rw[H _ hm'] at hg
  have he:=equal_ok b[i].v b[i].v (hbw _ hm') (hbw _ hm')
  rw[eqb_eq.2 rfl] at he
  have hI:=ih (i+1) (by omega) (by omega)
  generalize b[i]=x at hx hg he
  obtain⟨nm,⟨k,n,s,a⟩⟩:=x
  refine At.tree mCtr_ok (MEx2_eq (bdL c) (bdL b) i nm k n s (Tm.cellsL a)) ?_
  simp only[SS,bdL_len]
  exact⟨fun _=>⟨⟨by omega,hx⟩,hg,⟨by omega,hx⟩,he,by omega,hI⟩,fun h=>by omega⟩
theorem extends_ok (c b:List Bd) (hl:c.length<=1000000) (hw: ∀ x∈c,x.wf 281474976710656) (hd: ∀ x∈c,x.v.depth<=1000000000) (hf: ∀ x∈c,x.v.few 1000) (hbl:b.length<=281474976710656) (hbw: ∀ x∈b,x.v.wf 281474976710656) (H: ∀ x∈b,getV c x.n=some x.v):FK 14 [.slice (bdL c) [],.slice (bdL b) []] (.bool true):=by
 refine FnOK.tree hdraw fp14 mCtr_ok (MEx_eq (bdL c) (bdL b)) ?_
 rw[ok_jmp]
 exact ex_at c b hl hw hd hf hbl hbw H _ 0 rfl (Nat.zero_le _)
end Go.Proofs.YtobgkdlghljdlaaGreatDoor
/- MatchOrder,but for what is awake. -/
namespace Go.Proofs.YtobgkdlghljdlaaGreatDoor
open Go.Sx
theorem sbd_ok (x:Bd) (hx:x.v.wf 281474976710656):FK 36 [.agg x.c,.agg x.c] (.bool true):=by
 have h:=sa_ok x.v x.v hx hx
 unfold SaP at h
 rw[eqb_eq.2 rfl] at h
 obtain⟨m,⟨k,n,s,a⟩⟩:=x
 refine FnOK.tree hdraw fp36 mCtr_ok (LSb0_eq m k n s (Tm.cellsL a) m k n s (Tm.cellsL a) true) ?_
 simp only[SS]
 exact⟨h,fun h2=>absurd trivial h2⟩
theorem sb_at (l:List Bd) (hl:l.length<=1000000) (hw: ∀ x∈l,x.v.wf 281474976710656): ∀ (m i:Nat),l.length-i=m->i<=l.length →
  At Tryz.prog 0 (cut sc11 0) (hdSb (bdL l) (bdL l) i) (FinQ true 0 rs11 fun r _=>r= .bool true):=by
 intro m
 induction m with
 | zero =>
  intro i hm hi
  refine At.tree mCtr_ok (LSb2_eq (bdL l) (bdL l) i [] 0 0 [] [] [] 0 0 [] [] true) ?_
  simp only[SS,bdL_len]
  exact⟨fun h=>by omega,fun _=>by first | trivial | rfl⟩
 | succ m ih =>
  intro i hm hi
  have h1:i<l.length:=by omega
  have hx:=bdL_get h1
  have hC:=sbd_ok l[i] (hw _ (List.getElem_mem h1))
  have hI:=ih (i+1) (by omega) (by omega)
  generalize l[i]=x at hx hC
  obtain⟨m,⟨k,n,s,a⟩⟩:=x
  refine At.tree mCtr_ok (LSb2_eq (bdL l) (bdL l) i m k n s (Tm.cellsL a) m k n s (Tm.cellsL a) true) ?_
  simp only[SS,bdL_len]
  exact⟨fun _=>⟨⟨by omega,hx⟩,⟨by omega,hx⟩,hC,fun h=>(by cases h),by omega,hI⟩,fun h=>by omega⟩
theorem sbs_ok (l:List Bd) (hl:l.length<=1000000) (hw: ∀ x∈l,x.v.wf 281474976710656):FK 11 [.slice (bdL l) [],.slice (bdL l) []] (.bool true):=by
 refine FnOK.tree hdraw fp11 mCtr_ok (LSb_eq (bdL l) (bdL l)) ?_
 simp only[SS]
 first | exact sb_at l hl hw _ 0 rfl (Nat.zero_le _) | exact⟨fun h=>absurd trivial h,sb_at l hl hw _ 0 rfl (Nat.zero_le _)⟩
theorem sm_all {b:List Bd} {l:List Tm} (hl: ∀ x∈l,x.wf 281474976710656) (hb: ∀ x∈b,x.wf 281474976710656) (hB:b.length<=150) (h:smlB b l=true):(∀ x∈l,TmB x)/\Tm.cntL l<=150/\l.length<=150/\BdB b:=by
 have h:=of_decide_eq_true h
 obtain⟨h1,h2⟩:=smB_le b _ (szL_ge l 150 0) h
 have h3:=szL_few (N:=1000) l 150 0 (by decide) h1
 have hf:=fewL_all.1 h3.1
 have hd:=szL_depth l 150 0 h1
 have hc:=szL_cnt l 150 0 h1
 refine⟨fun x hx=>⟨hl x hx,hf x hx, ?_⟩,by omega,by omega,⟨by omega,hb,fun x hx=>⟨(hb x hx).2,sz_few x.v 150 (by decide) (h2 x hx), ?_⟩⟩⟩
 ·have:=depthL_mem0 hx
  omega
 ·have:=sz_depth x.v 150 (h2 x hx)
  omega
theorem lst_bd {p v:List Tm} {b c:List Bd} (hp: ∀ x∈p,TmB x) (hv: ∀ x∈v,TmB x) (hb:BdB b) (h:lstB p v b=some c):(∀ x∈c,x.v.wf 281474976710656/\TmB x.v)/\c.length<=b.length+Tm.cntL p:=by
 unfold lstB at h
 split at h
 ·split at h
  ·rename_i q hq
   split at h
   ·cases h
    obtain⟨w,h1,h2,h3⟩:=oA_some hq
    obtain⟨q1,q2⟩:=prsL_her her_tmB her_tmB p v w hp hv h1
    have q3:=prsL_cnt p v w h1
    obtain⟨q4,q5⟩:=bndA_len h2
    refine⟨fun x hx=> ?_,by omega⟩
    rcases q5 x hx with hx | hx
    ·exact⟨(hb.tm x hx).1,hb.tm x hx⟩
    ·have:=q1 _ hx
     exact⟨this.1,this⟩
   ·cases h
  ·cases h
 ·cases h
end Go.Proofs.YtobgkdlghljdlaaGreatDoor
/- MatchSound,MatchFinds: trees of the small functions. -/
namespace Go.Proofs.YtobgkdlghljdlaaGreatDoor
open Go.Sx
theorem SOu_eq (k n:Int) (s:LU) (a:LD):goT Tryz.prog (mCtr []) 0 (finF true 0 rs17) 2000 [Fr.sc sc17] { tm:=envOf 0 [dA (tC k n s a)],ob:=[] }=(brT (decide (k=(5:Int))) (Rt (D.own 1 9 []) []) (brT (decide (k=(6:Int))) (Rt (D.own 1 9 []) []) (brT (decide (k=(3:Int))) (Ow (allLen 1 [[dS s]]/\1<=1073741824) (Jm (cut sc17 0) { tm:=[(1,dP 0 0),(3,dV 1),(4,dI (0:Int))],ob:=[(0,oC (tC k n s a)),(1,oR true 1 9 [[dS s]])] })) (Jm (cut sc17 0) { tm:=[(1,dP 0 0),(3,dV 1),(4,dI (0:Int))],ob:=[(0,oC (tC k n s a)),(1,oR true 1 9 [])] }))):Tr):=by kernel_rfl
def hdOu (k n:Int) (s:LU) (a row:LD) (i:Int):St:=⟨[(1,.ptr 0 0),(3,.vec 1),(4,.int .i64 i)],[(0,.cells (tC k n s a)),(1,.arr true 1 9 row)]⟩
theorem SOu2_eq (k n:Int) (s:LU) (a row:LD) (i:Nat) (kx nx:Int) (sx:LU) (ax r:LD):goT Tryz.prog (mCtr [(34,dL r [])] [(32,tC kx nx sx ax)]) 0 (finF true 0 rs17) 2000 (cut sc17 0) (hdOu k n s a row (↑i:Int))=(brT (decide ((↑i:Int)<(↑(List.length a):Int))) (Ow ((0:Int)<=(↑i:Int)/\a[Int.toNat (↑i:Int)]? = some (tC kx nx sx ax)) (Ow (FK 17 [dA (tC kx nx sx ax)] (dL r [])) (Ow (allLen 1 r/\List.length row+List.length r<=1073741824) (Ow ((-9223372036854775808:Int)<=(↑i:Int)+(1:Int)/\(↑i:Int)+(1:Int)<=(9223372036854775807:Int)) (Jm (cut sc17 0) { tm:=[(1,dP 0 0),(3,dV 1),(4,dI ((↑i:Int)+(1:Int)))],ob:=[(0,oC (tC k n s a)),(1,oR true 1 9 (row++r))] }))))) (Rt (D.own 1 9 row) []):Tr):=by kernel_rfl
theorem SHa_eq (es:LD) (s:LU):goT Tryz.prog (mCtr []) 0 (finF true 0 rs19) 2000 [Fr.sc sc19] { tm:=envOf 0 [dL es [],dS s],ob:=[] }=(Jm (cut sc19 0) { tm:=[(0,dL es []),(1,dS s),(5,dI (0:Int))],ob:=[] }:Tr):=by kernel_rfl
def hdHa (es:LD) (s:LU) (i:Int):St:=⟨[(0,.slice es []),(1,.str s),(5,.int .i64 i)],[]⟩
theorem SHa2_eq (es:LD) (s:LU) (i:Nat) (t:LU):goT Tryz.prog (mCtr [] [(14,[dS t])]) 0 (finF true 0 rs19) 2000 (cut sc19 0) (hdHa es s (↑i:Int))=(brT (decide ((↑i:Int)<(↑(List.length es):Int))) (Ow ((0:Int)<=(↑i:Int)/\es[Int.toNat (↑i:Int)]? = some [dS t]) (brT (decide (t=s)) (Rt (dB true) []) (Ow ((-9223372036854775808:Int)<=(↑i:Int)+(1:Int)/\(↑i:Int)+(1:Int)<=(9223372036854775807:Int)) (Jm (cut sc19 0) { tm:=[(0,dL es []),(1,dS s),(5,dI ((↑i:Int)+(1:Int)))],ob:=[] })))) (Rt (dB false) []):Tr):=by kernel_rfl
theorem SAm_eq (es:LD) (k n:Int) (s:LU) (a:LD):goT Tryz.prog (mCtr []) 0 (finF true 0 rs23) 2000 [Fr.sc sc23] { tm:=envOf 0 [dL es [],dA (tC k n s a)],ob:=[] }=(Jm (cut sc23 0) { tm:=[(0,dL es []),(3,dP 0 0),(5,dI (0:Int))],ob:=[(0,oC (tC k n s a))] }:Tr):=by kernel_rfl
def hdAm (es:LD) (k n:Int) (s:LU) (a:LD) (i:Int):St:=⟨[(0,.slice es []),(3,.ptr 0 0),(5,.int .i64 i)],[(0,.cells (tC k n s a))]⟩
theorem SAm2_eq (es:LD) (k n:Int) (s:LU) (a:LD) (i:Nat) (kx nx:Int) (sx:LU) (ax:LD) (b:Bool):goT Tryz.prog (mCtr [(17,dB b)] [(14,tC kx nx sx ax)]) 0 (finF true 0 rs23) 2000 (cut sc23 0) (hdAm es k n s a (↑i:Int))=(brT (decide ((↑i:Int)<(↑(List.length es):Int))) (Ow ((0:Int)<=(↑i:Int)/\es[Int.toNat (↑i:Int)]? = some (tC kx nx sx ax)) (Ow (FK 27 [dA (tC kx nx sx ax),dA (tC k n s a)] (dB b)) (brT b (Rt (dB true) []) (Ow ((-9223372036854775808:Int)<=(↑i:Int)+(1:Int)/\(↑i:Int)+(1:Int)<=(9223372036854775807:Int)) (Jm (cut sc23 0) { tm:=[(0,dL es []),(3,dP 0 0),(5,dI ((↑i:Int)+(1:Int)))],ob:=[(0,oC (tC k n s a))] }))))) (Rt (dB false) []):Tr):=by kernel_rfl
end Go.Proofs.YtobgkdlghljdlaaGreatDoor
/- MatchSound: trees. -/
namespace Go.Proofs.YtobgkdlghljdlaaGreatDoor
open Go.Sx
abbrev tmD (es:LD):List (Nat × D):=[(2,.slice es []),(3,.ptr 0 0),(4,.ptr 1 0)]
theorem SD_eq (k n:Int) (s:LU) (a:LD) (kv nv:Int) (sv:LU) (av es:LD):goT Tryz.prog (mCtr []) 0 (finF true 0 rs4) 2000 [Fr.sc sc4] { tm:=envOf 0 [dA (tC k n s a),dA (tC kv nv sv av),dL es []],ob:=[] }=(Jm (frg sc4 0) { tm:=[(2,dL es []),(3,dP 0 0),(4,dP 1 0)],ob:=(obV k n s a kv nv sv av) }:Tr):=by kernel_rfl
theorem SD0_eq (k n:Int) (s:LU) (a:LD) (kv nv:Int) (sv:LU) (av es:LD):goT Tryz.prog (mCtr [(21,dB true)]) 0 (finF true 0 rs4) 2000 (frg sc4 0) { tm:=tmD es,ob:=obV k n s a kv nv sv av }=(Ow (FK 7 [] (dB true)) (Jm (frg sc4 1) { tm:=[(2,dL es []),(3,dP 0 0),(4,dP 1 0)],ob:=(obV k n s a kv nv sv av) }):Tr):=by kernel_rfl
theorem SD1_eq (k n:Int) (s:LU) (a:LD) (kv nv:Int) (sv:LU) (av es:LD) (b:Bool):goT Tryz.prog (mCtr [(27,dB b)]) 0 (finF true 0 rs4) 2000 (frg sc4 1) { tm:=tmD es,ob:=obV k n s a kv nv sv av }=(Ow (FK 8 [dL es [],dL [(tC k n s a),(tC kv nv sv av)] []] (dB b)) (brT (!b) (Rt (dB true) []) (brT (decide ((150:Int)<(↑(List.length es):Int))) (Rt (dB true) []) (Jm (frg sc4 2) { tm:=[(2,dL es []),(3,dP 0 0),(4,dP 1 0)],ob:=(obV k n s a kv nv sv av) }))):Tr):=by kernel_rfl
theorem SD2_eq (k n:Int) (s:LU) (a:LD) (kv nv:Int) (sv:LU) (av es cs:LD) (ok:Bool):goT Tryz.prog (mCtr [(38,D.tuple [dL cs [],dB ok])]) 0 (finF true 0 rs4) 2000 (frg sc4 2) { tm:=tmD es,ob:=obV k n s a kv nv sv av }=(Ow (FK 12 [dA (tC k n s a),dA (tC kv nv sv av),dL es []] (D.tuple [dL cs [],dB ok])) (Jm (frg sc4 3) { tm:=[(2,dL es []),(3,dP 0 0),(4,dP 1 0),(7,dL cs []),(8,dB ok)],ob:=(obV k n s a kv nv sv av) }):Tr):=by kernel_rfl
theorem SD3_eq (k n:Int) (s:LU) (a:LD) (kv nv:Int) (sv:LU) (av es cs:LD) (ok:Bool):goT Tryz.prog (mCtr []) 0 (finF true 0 rs4) 2000 (frg sc4 3) { tm:=tmD es++[(7,dL cs []),(8,dB ok)],ob:=obV k n s a kv nv sv av }=(brT (!ok) (Rt (dB (decide ((↑(List.length cs):Int)=(0:Int)))) []) (Jm (frg sc4 4) { tm:=[(2,dL es []),(3,dP 0 0),(4,dP 1 0),(7,dL cs [])],ob:=(obV k n s a kv nv sv av) }):Tr):=by kernel_rfl
theorem SD4_eq (k n:Int) (s:LU) (a:LD) (kv nv:Int) (sv:LU) (av es cs:LD):goT Tryz.prog (mCtr [(47,dB true),(51,dB true),(57,dB true),(62,dB true),(67,dB true)]) 0 (finF true 0 rs4) 2000 (frg sc4 4) { tm:=tmD es++[(7,dL cs [])],ob:=obV k n s a kv nv sv av }=(Ow (FK 13 [dL es []] (dB true)) (Ow (FK 13 [dL cs []] (dB true)) (Ow (FK 14 [dL cs [],dL es []] (dB true)) (Ow (FK 15 [dA (tC k n s a)] (dB true)) (Ow (FK 16 [dA (tC kv nv sv av)] (dB true)) (Jm (frg sc4 5) { tm:=[(2,dL es []),(3,dP 0 0),(4,dP 1 0),(7,dL cs [])],ob:=(obV k n s a kv nv sv av) }))))):Tr):=by kernel_rfl
theorem SD5_eq (k n:Int) (s:LU) (a:LD) (kv nv:Int) (sv:LU) (av es cs vs:LD):goT Tryz.prog (mCtr [(71,dL vs [])]) 0 (finF true 0 rs4) 2000 (frg sc4 5) { tm:=tmD es++[(7,dL cs [])],ob:=obV k n s a kv nv sv av }=(Ow (FK 17 [dA (tC k n s a)] (dL vs [])) (Jm (frg sc4 6) { tm:=[(2,dL es []),(3,dP 0 0),(4,dP 1 0),(7,dL cs []),(9,dL vs [])],ob:=(obV k n s a kv nv sv av) }):Tr):=by kernel_rfl
theorem SD6_eq (k n:Int) (s:LU) (a:LD) (kv nv:Int) (sv:LU) (av es cs vs:LD):goT Tryz.prog (mCtr []) 0 (finF true 0 rs4) 2000 (frg sc4 6) { tm:=tmD es++[(7,dL cs []),(9,dL vs [])],ob:=obV k n s a kv nv sv av }=(Jm (cut sc4 0) { tm:=[(2,dL es []),(3,dP 0 0),(4,dP 1 0),(7,dL cs []),(9,dL vs []),(10,dI (0:Int))],ob:=(obV k n s a kv nv sv av) }:Tr):=by kernel_rfl
theorem SDl1_eq (k n:Int) (s:LU) (a:LD) (kv nv:Int) (sv:LU) (av es cs vs:LD) (i:Nat) (m:LU) (kb nb:Int) (sb:LU) (ab:LD) (kw nw:Int) (sw:LU) (aw:LD) (old h:Bool):goT Tryz.prog (mCtr [(85,D.tuple [dA (tC kw nw sw aw),dB old]),(97,dB h)] [(82,bC m kb nb sb ab),(94,bC m kb nb sb ab)]) 0 (finF true 0 rs4) 2000 (cut sc4 0) { tm:=tmD es++[(7,dL cs []),(9,dL vs []),(10,dI (↑i:Int))],ob:=obV k n s a kv nv sv av }=(brT (decide ((↑i:Int)<(↑(List.length cs):Int))) (Ow ((0:Int)<=(↑i:Int)/\cs[Int.toNat (↑i:Int)]? = some (bC m kb nb sb ab)) (Ow (FK 18 [dL es [],dS m] (D.tuple [dA (tC kw nw sw aw),dB old])) (brT (!old) (Ow ((0:Int)<=(↑i:Int)/\cs[Int.toNat (↑i:Int)]? = some (bC m kb nb sb ab)) (Ow (FK 19 [dL vs [],dS m] (dB h)) (brT (!h) (Rt (dB false) []) (Ow ((-9223372036854775808:Int)<=(↑i:Int)+(1:Int)/\(↑i:Int)+(1:Int)<=(9223372036854775807:Int)) (Jm (cut sc4 0) { tm:=[(2,dL es []),(3,dP 0 0),(4,dP 1 0),(7,dL cs []),(9,dL vs []),(10,dI ((↑i:Int)+(1:Int)))],ob:=(obV k n s a kv nv sv av) }))))) (Ow ((-9223372036854775808:Int)<=(↑i:Int)+(1:Int)/\(↑i:Int)+(1:Int)<=(9223372036854775807:Int)) (Jm (cut sc4 0) { tm:=[(2,dL es []),(3,dP 0 0),(4,dP 1 0),(7,dL cs []),(9,dL vs []),(10,dI ((↑i:Int)+(1:Int)))],ob:=(obV k n s a kv nv sv av) }))))) (Jm (frg sc4 7) { tm:=[(3,dP 0 0),(4,dP 1 0),(7,dL cs []),(9,dL vs [])],ob:=(obV k n s a kv nv sv av) }):Tr):=by kernel_rfl
abbrev tmD7 (cs vs:LD):List (Nat × D):=[(3,.ptr 0 0),(4,.ptr 1 0),(7,.slice cs []),(9,.slice vs [])]
theorem SD7_eq (k n:Int) (s:LU) (a:LD) (kv nv:Int) (sv:LU) (av cs vs:LD):goT Tryz.prog (mCtr []) 0 (finF true 0 rs4) 2000 (frg sc4 7) { tm:=tmD7 cs vs,ob:=obV k n s a kv nv sv av }=(Jm (cut sc4 1) { tm:=[(3,dP 0 0),(4,dP 1 0),(7,dL cs []),(9,dL vs []),(13,dI (0:Int))],ob:=(obV k n s a kv nv sv av) }:Tr):=by kernel_rfl
theorem SDl2_eq (k n:Int) (s:LU) (a:LD) (kv nv:Int) (sv:LU) (av cs vs:LD) (i:Nat) (t:LU) (kw nw:Int) (sw:LU) (aw:LD) (b:Bool):goT Tryz.prog (mCtr [(112,D.tuple [dA (tC kw nw sw aw),dB b])] [(110,[dS t])]) 0 (finF true 0 rs4) 2000 (cut sc4 1) { tm:=tmD7 cs vs++[(13,dI (↑i:Int))],ob:=obV k n s a kv nv sv av }=(brT (decide ((↑i:Int)<(↑(List.length vs):Int))) (Ow ((0:Int)<=(↑i:Int)/\vs[Int.toNat (↑i:Int)]? = some [dS t]) (Ow (FK 18 [dL cs [],dS t] (D.tuple [dA (tC kw nw sw aw),dB b])) (brT (!b) (Rt (dB false) []) (Ow ((-9223372036854775808:Int)<=(↑i:Int)+(1:Int)/\(↑i:Int)+(1:Int)<=(9223372036854775807:Int)) (Jm (cut sc4 1) { tm:=[(3,dP 0 0),(4,dP 1 0),(7,dL cs []),(9,dL vs []),(13,dI ((↑i:Int)+(1:Int)))],ob:=(obV k n s a kv nv sv av) }))))) (Jm (frg sc4 8) { tm:=[(3,dP 0 0),(4,dP 1 0),(7,dL cs [])],ob:=(obV k n s a kv nv sv av) }):Tr):=by kernel_rfl
abbrev tmD8 (cs:LD):List (Nat × D):=[(3,.ptr 0 0),(4,.ptr 1 0),(7,.slice cs [])]
theorem SD8_eq (k n:Int) (s:LU) (a:LD) (kv nv:Int) (sv:LU) (av cs:LD) (kt nt:Int) (st:LU) (ta:LD):goT Tryz.prog (mCtr [(119,dA (tC kt nt st ta))]) 0 (finF true 0 rs4) 2000 (frg sc4 8) { tm:=tmD8 cs,ob:=obV k n s a kv nv sv av }=(Ow (FK 20 [dA (tC k n s a),dL cs []] (dA (tC kt nt st ta))) (Jm (frg sc4 9) { tm:=[(3,dP 0 0),(4,dP 1 0),(7,dL cs []),(16,dP 2 0)],ob:=[(0,oC (tC k n s a)),(1,oC (tC kv nv sv av)),(2,oC (tC kt nt st ta))] }):Tr):=by kernel_rfl
theorem SD9_eq (k n:Int) (s:LU) (a:LD) (kv nv:Int) (sv:LU) (av cs:LD) (kt nt:Int) (st:LU) (ta ds:LD) (b:Bool):goT Tryz.prog (mCtr [(124,D.tuple [dL ds [],dB b])]) 0 (finF true 0 rs4) 2000 (frg sc4 9) { tm:=tmD8 cs++[(16,dP 2 0)],ob:=[(0,oC (tC k n s a)),(1,oC (tC kv nv sv av)),(2,oC (tC kt nt st ta))] }=(Ow (FK 12 [dA (tC k n s a),dA (tC kv nv sv av),dL cs []] (D.tuple [dL ds [],dB b])) (Jm (frg sc4 10) { tm:=[(4,dP 0 0),(7,dL cs []),(16,dP 1 0),(17,dL ds []),(18,dB b)],ob:=(obV kv nv sv av kt nt st ta) }):Tr):=by kernel_rfl
theorem SD10_eq (kv nv:Int) (sv:LU) (av cs:LD) (kt nt:Int) (st:LU) (ta ds:LD) (b c g:Bool):goT Tryz.prog (mCtr [(132,dB c),(137,dB g)]) 0 (finF true 0 rs4) 2000 (frg sc4 10) { tm:=[(4,dP 0 0),(7,dL cs []),(16,dP 1 0),(17,dL ds []),(18,dB b)],ob:=(obV kv nv sv av kt nt st ta) }=(brT (!b) (Rt (dB false) []) (Ow (FK 11 [dL cs [],dL ds []] (dB c)) (brT (!c) (Rt (dB false) []) (Ow (FK 21 [dA (tC kt nt st ta)] (dB g)) (brT (!g) (Rt (dB false) []) (Jm (frg sc4 11) { tm:=[(4,dP 0 0),(16,dP 1 0)],ob:=(obV kv nv sv av kt nt st ta) }))))):Tr):=by kernel_rfl
theorem SD11_eq (kv nv:Int) (sv:LU) (av:LD) (kt nt:Int) (st:LU) (ta l:LD) (e:Int):goT Tryz.prog (mCtr [(142,D.tuple [dL l [],dI e])]) 0 (finF true 0 rs4) 2000 (frg sc4 11) { tm:=[(4,dP 0 0),(16,dP 1 0)],ob:=(obV kv nv sv av kt nt st ta) }=(Ow (FK 22 [dA (tC kt nt st ta)] (D.tuple [dL l [],dI e])) (Jm (frg sc4 12) { tm:=[(4,dP 0 0),(19,dL l []),(20,dI e)],ob:=[(0,oC (tC kv nv sv av))] }):Tr):=by kernel_rfl
theorem SD12_eq (kv nv:Int) (sv:LU) (av l:LD) (e:Int) (b:Bool):goT Tryz.prog (mCtr [(150,dB b)]) 0 (finF true 0 rs4) 2000 (frg sc4 12) { tm:=[(4,dP 0 0),(19,dL l []),(20,dI e)],ob:=[(0,oC (tC kv nv sv av))] }=(brT (!decide (e=(0:Int))) (Rt (dB true) []) (Ow (FK 23 [dL l [],dA (tC kv nv sv av)] (dB b)) (Rt (dB b) [])):Tr):=by kernel_rfl
end Go.Proofs.YtobgkdlghljdlaaGreatDoor
