/- Own work: a layer over the kit: plain data,a walk over it,its soundness. -/
import Derived.Test.YtobgkdlghljdlaaGreatDoorSame
import Derived.Test.YtobgkdlghljdlaaGreatDoorShape
import Derived.Test.YtobgkdlghljdlaaGreatDoorArA
import Derived.Test.YtobgkdlghljdlaaGreatDoorSx8
set_option linter.unusedSectionVars false
set_option linter.unusedVariables false
set_option linter.unusedSimpArgs false
set_option linter.deprecated false
set_option maxRecDepth 100000
/- arith.integers,arith.operation. -/
namespace Go.Proofs.YtobgkdlghljdlaaGreatDoor
open Go.Sx
theorem PInt_eq (es ext:LD):goT Tryz.prog (ctr libT) 0 (finF true 0 rs87) 2000 [Fr.sc sc87] { tm:=envOf 0 [dL es ext],ob:=[] }=(Jm (cut sc87 0) { tm:=[(2,dV 0),(5,dL es ext),(6,dI (↑(List.length es):Int)),(7,dI (0:Int))],ob:=[(0,oR true 1 3 [])] }:Tr):=by kernel_rfl
def hdInt (es ext:LD) (row:LD) (m i:Int):St:=⟨[(2,.vec 0),(5,.slice es ext),(6,.int .i64 m),(7,.int .i64 i)],[(0,.arr true 1 3 row)]⟩
theorem PInt2_eq (es ext row:LD) (m:Int) (i:Nat) (k n:Int) (s:LU) (a:LD):goT Tryz.prog (ctr libT qnone (eOne [dU k,dI n,dS s,dL a []])) 0 (finF true 0 rs87) 2000 (cut sc87 0) (hdInt es ext row m (↑i:Int))=(brT (decide ((↑i:Int)<m)) (Ow ((0:Int)<=(↑i:Int)/\es[Int.toNat (↑i:Int)]? = some [dU k,dI n,dS s,dL a []]) (brT (decide (k=(1:Int))) (Ow (allLen 1 [[dI n]]/\List.length row+1<=1073741824) (Ow ((-9223372036854775808:Int)<=(↑i:Int)+(1:Int)/\(↑i:Int)+(1:Int)<=(9223372036854775807:Int)) (Jm (cut sc87 0) { tm:=[(2,dV 0),(5,dL es ext),(6,dI m),(7,dI ((↑i:Int)+(1:Int)))],ob:=[(0,oR true 1 3 (row++[[dI n]]))] }))) (Ow ((-9223372036854775808:Int)<=(↑i:Int)+(1:Int)/\(↑i:Int)+(1:Int)<=(9223372036854775807:Int)) (Jm (cut sc87 0) { tm:=[(2,dV 0),(5,dL es ext),(6,dI m),(7,dI ((↑i:Int)+(1:Int)))],ob:=[(0,oR true 1 3 row)] })))) (Rt (D.own 1 3 row) []):Tr):=by kernel_rfl
theorem POpA_eq (s:LU) (es ext:LD):goT Tryz.prog (ctr libT) 0 (finF true 0 rs88) 2000 [Fr.sc sc88] { tm:=envOf 0 [dS s,dL es ext],ob:=[] }=(Jm (frg sc88 0) { tm:=[(1,dL es ext),(2,dP 0 0)],ob:=[(0,oC [dS s])] }:Tr):=by kernel_rfl
theorem POp0_eq (s:LU) (es ext:LD):goT Tryz.prog (ctr libT) 0 (finF true 0 rs88) 2000 (frg sc88 0) { tm:=[(1,dL es ext),(2,dP 0 0)],ob:=[(0,oC [dS s])] }=(Jm (frg sc88 1) { tm:=[(1,dL es ext),(2,dP 0 0),(5,dV 1)],ob:=[(0,oC [dS s]),(1,oR true 1 110 [])] }:Tr):=by kernel_rfl
theorem POp1_eq (s:LU) (es ext:LD):goT Tryz.prog (ctr libT) 0 (finF true 0 rs88) 2000 (frg sc88 1) { tm:=[(1,dL es ext),(2,dP 0 0),(5,dV 1)],ob:=[(0,oC [dS s]),(1,oR true 1 110 [])] }=(Jm (cut sc88 0) { tm:=[(2,dP 0 0),(5,dV 1),(14,dL es ext),(15,dI (↑(List.length es):Int)),(16,dI (0:Int))],ob:=[(0,oC [dS s]),(1,oR true 1 110 [])] }:Tr):=by kernel_rfl
def hdOp (s:LU) (es ext row:LD) (m i:Int):St:=⟨[(2,.ptr 0 0),(5,.vec 1),(14,.slice es ext),(15,.int .i64 m),(16,.int .i64 i)],[(0,.cells [.str s]),(1,.arr true 1 110 row)]⟩
theorem POpL_eq (s:LU) (es ext row xs:LD) (m:Int) (i:Nat) (q:LD):goT Tryz.prog (ctr (asmP (D.own 1 3 q)) qnone (eOne [dL xs []])) 0 (finF true 0 rs88) 2000 (cut sc88 0) (hdOp s es ext row m (↑i:Int))=(brT (decide ((↑i:Int)<m)) (Ow ((0:Int)<=(↑i:Int)/\es[Int.toNat (↑i:Int)]? = some [dL xs []]) (Ow (FK 87 [dL xs []] (D.own 1 3 q)) (Ow (allLen 1 [[dL q []]]/\List.length row+1<=1073741824) (Ow ((-9223372036854775808:Int)<=(↑i:Int)+(1:Int)/\(↑i:Int)+(1:Int)<=(9223372036854775807:Int)) (Jm (cut sc88 0) { tm:=[(2,dP 0 0),(5,dV 1),(14,dL es ext),(15,dI m),(16,dI ((↑i:Int)+(1:Int)))],ob:=[(0,oC [dS s]),(1,oR true 1 110 (row++[[dL q []]]))] }))))) (Jm (frg sc88 2) { tm:=[(2,dP 0 0),(5,dV 1)],ob:=[(0,oC [dS s]),(1,oR true 1 110 row)] }):Tr):=by kernel_rfl
theorem POp2_eq (s:LU) (row:LD):goT Tryz.prog (ctr libT) 0 (finF true 0 rs88) 2000 (frg sc88 2) { tm:=[(2,dP 0 0),(5,dV 1)],ob:=[(0,oC [dS s]),(1,oR true 1 110 row)] }=(Jm (frg sc88 3) { tm:=[(2,dP 0 0),(5,dV 1),(8,dP 2 0)],ob:=[(0,oC [dS s]),(1,oR true 1 110 row),(2,oC [D.map 3]),(3,Ob.gen (Gen.mapC [] []) [])] }:Tr):=by kernel_rfl
theorem POpR_eq (s:LU) (row:LD) (ks vs:List D):goT Tryz.prog (ctr libT (QT.or rowsQ (asmA (D.tuple []) (updO [] ks vs)))) 0 (finF true 0 rs88) 2000 (frg sc88 3) { tm:=[(2,dP 0 0),(5,dV 1),(8,dP 2 0)],ob:=[(0,oC [dS s]),(1,oR true 1 110 row),(2,oC [D.map 3]),(3,Ob.gen (Gen.mapC [] []) [])] }=(Ow True (Ow (CallL Tryz.prog (dF 139 [] [dP 0 0]) [D.yld 1] [(0,oC [dL row []]),(1,Ob.gen (Gen.loop LoopState.ready none #[29] (SC.reg [so 9 AOp.mv [xt 29]]) (SC.block 3 (SC.seq (SC.reg [so 31 (AOp.load false 1) [xt 2],so 32 AOp.mv [xt 9],SOp.cd (some 33) none (xc (dF 119 [] [])) [xt 31,xt 32],so 30 AOp.mv [xt 33],so 34 (AOp.extract 0) [xt 30],so 35 (AOp.extract 1) [xt 30],so 10 AOp.mv [xt 34],so 11 AOp.mv [xt 35]]) (SC.seq (SC.reg [so 36 AOp.mv [xt 11]]) (SC.cond (xt 36) (SC.seq (SC.reg [so 37 (AOp.load false 1) [xt 8],so 38 AOp.mv [xt 10],so 39 AOp.mv [xt 10],SOp.st none (SK.k (some IntKind.i64) (xt 38)) (xt 37) (xt 39)]) (SC.reg [so 40 (AOp.load false 1) [xt 8],so 41 (AOp.ext Ext.lenm) [xt 40],so 42 (AOp.call 116) [xt 41]])) SC.skip)))) 56 [28,27,2,5,8]) [dF 139 [] [dP 0 0],dV 2,dP 3 0,dV 2,dP 4 0]),(2,oR true 1 110 row),(3,oC [dS s]),(4,oC [D.map 5]),(5,Ob.gen (Gen.mapC [] []) [])] fun r0 ob0=>r0=D.tuple []/\ob0=[(0,oC [dL row []]),(1,Ob.gen (Gen.loop LoopState.ready none #[29] (SC.reg [so 9 AOp.mv [xt 29]]) (SC.block 3 (SC.seq (SC.reg [so 31 (AOp.load false 1) [xt 2],so 32 AOp.mv [xt 9],SOp.cd (some 33) none (xc (dF 119 [] [])) [xt 31,xt 32],so 30 AOp.mv [xt 33],so 34 (AOp.extract 0) [xt 30],so 35 (AOp.extract 1) [xt 30],so 10 AOp.mv [xt 34],so 11 AOp.mv [xt 35]]) (SC.seq (SC.reg [so 36 AOp.mv [xt 11]]) (SC.cond (xt 36) (SC.seq (SC.reg [so 37 (AOp.load false 1) [xt 8],so 38 AOp.mv [xt 10],so 39 AOp.mv [xt 10],SOp.st none (SK.k (some IntKind.i64) (xt 38)) (xt 37) (xt 39)]) (SC.reg [so 40 (AOp.load false 1) [xt 8],so 41 (AOp.ext Ext.lenm) [xt 40],so 42 (AOp.call 116) [xt 41]])) SC.skip)))) 56 [28,27,2,5,8]) [dF 139 [] [dP 0 0],dV 2,dP 3 0,dV 2,dP 4 0]),(2,oR true 1 110 row),(3,oC [dS s]),(4,oC [D.map 5]),(5,Ob.gen (Gen.mapC ks vs) [])]) (Jm (frg sc88 4) { tm:=[(8,dP 0 0)],ob:=[(0,oC [D.map 1]),(1,Ob.gen (Gen.mapC ks vs) [])] })):Tr):=by kernel_rfl
theorem POp4_eq (ks vs:List D):goT Tryz.prog (ctr libT) 0 (finF true 0 rs88) 2000 (frg sc88 4) { tm:=[(8,dP 0 0)],ob:=[(0,oC [D.map 1]),(1,Ob.gen (Gen.mapC ks vs) [])] }=(Jm (frg sc88 5) { tm:=[(8,dP 0 0),(12,dV 1)],ob:=[(0,oC [D.map 2]),(1,oR false 4 35 []),(2,Ob.gen (Gen.mapC ks vs) [])] }:Tr):=by kernel_rfl
theorem POp5_eq (ks vs:List D):goT Tryz.prog (ctr libT) 0 (finF true 0 rs88) 2000 (frg sc88 5) { tm:=[(8,dP 0 0),(12,dV 1)],ob:=[(0,oC [D.map 2]),(1,oR false 4 35 []),(2,Ob.gen (Gen.mapC ks vs) [])] }=(Jm (spc sc88 6) { tm:=[(8,dP 0 0),(12,dV 1)],ob:=[(0,oC [D.map 2]),(1,oR false 4 35 []),(2,Ob.gen (Gen.mapC ks vs) [])] }:Tr):=by kernel_rfl
theorem POp6_eq (ks vs:List D) (l:List Nat) (cl:Nat):goT Tryz.prog (ctr libT) 0 (finF true 0 rs88) 2000 (aft sc88 6) { tm:=[(44,dP 47 0),(43,D.map 2),(8,dP 0 0),(12,dV 1)],ob:=[(47,Ob.gen (Gen.iter l [] cl) [D.map 2]),(2,Ob.gen (Gen.mapB ks vs l cl) []),(0,oC [D.map 2]),(1,oR false 4 35 [])] }=(Jm (cut sc88 1) { tm:=[(12,dV 0),(44,dP 1 0)],ob:=[(0,oR false 4 35 []),(1,Ob.gen (Gen.iter l [] cl) [D.map 2]),(2,Ob.gen (Gen.mapB ks vs l cl) [])] }:Tr):=by kernel_rfl
theorem POpM_eq (ks vs:List D) (l ix:List Nat) (cl:Nat) (out:LD):goT Tryz.prog (ctr libT) 0 (finF true 0 rs88) 2000 (cut sc88 1) { tm:=[(12,dV 0),(44,dP 1 0)],ob:=[(0,oR false 4 35 out),(1,Ob.gen (Gen.iter l ix cl) [D.map 2]),(2,Ob.gen (Gen.mapB ks vs l cl) [])] }=(Jm (spc sc88 7) { tm:=[(12,dV 0),(44,dP 1 0)],ob:=[(0,oR false 4 35 out),(1,Ob.gen (Gen.iter l ix cl) [D.map 2]),(2,Ob.gen (Gen.mapB ks vs l cl) [])] }:Tr):=by kernel_rfl
theorem POpF_eq (ks vs:List D) (l ix:List Nat) (cl:Nat) (out:LD):goT Tryz.prog (ctr libT) 0 (finF true 0 rs88) 2000 (aft sc88 7) { tm:=[(46,dB false),(45,D.undef),(12,dV 0),(44,dP 1 0)],ob:=[(2,Ob.gen (Gen.mapC ks vs) []),(0,oR false 4 35 out),(1,Ob.gen (Gen.iter l ix cl) [D.map 2])] }=(Jm (frg sc88 6) { tm:=[(12,dV 0)],ob:=[(0,oR false 4 35 out)] }:Tr):=by kernel_rfl
theorem POpT_eq (ks vs:List D) (l ix:List Nat) (cl:Nat) (out:LD) (n:Int):goT Tryz.prog (ctr (asmP (dA [dU (1:Int),dI n,dS [],dL [] []])) qnone (eOne [D.tuple [dI n,dI n]])) 0 (finF true 0 rs88) 2000 (aft sc88 7) { tm:=[(46,dB true),(45,D.undef),(12,dV 0),(44,dP 1 0)],ob:=[(1,Ob.gen (Gen.iter l ix cl) [D.map 2]),(0,oR false 4 35 out),(2,Ob.gen (Gen.mapB ks vs l cl) [])] }=(Ow (extD Ext.entry [dP 1 0] (lk (St.ob { tm:=[(46,dB true),(45,D.undef),(12,dV 0),(44,dP 1 0)],ob:=[(1,Ob.gen (Gen.iter l ix cl) [D.map 2]),(0,oR false 4 35 out),(2,Ob.gen (Gen.mapB ks vs l cl) [])] }))=some (D.tuple [dI n,dI n])) (Ow (FK 117 [dI n] (dA [dU (1:Int),dI n,dS [],dL [] []])) (Ow (allLen 4 [[dU (1:Int),dI n,dS [],dL [] []]]/\List.length out+1<=1073741824) (Jm (cut sc88 1) { tm:=[(12,dV 0),(44,dP 1 0)],ob:=[(0,oR false 4 35 (out++[[dU (1:Int),dI n,dS [],dL [] []]])),(1,Ob.gen (Gen.iter l ix cl) [D.map 2]),(2,Ob.gen (Gen.mapB ks vs l cl) [])] }))):Tr):=by kernel_rfl
theorem POpE_eq (out res:LD):goT Tryz.prog (ctr libT (asmO (dV 0) [(0,oR true 4 35 res)])) 0 (finF true 0 rs88) 2000 (frg sc88 6) { tm:=[(12,dV 0)],ob:=[(0,oR false 4 35 out)] }=(Ow (CF 120 [dV 0] [(0,oR false 4 35 out)] fun r0 ob0=>r0=dV 0/\ob0=[(0,oR true 4 35 res)]) (Rt (D.own 4 35 res) []):Tr):=by kernel_rfl
theorem PNum_eq (n:Int):goT Tryz.prog (ctr libT) 0 (finF true 0 rs117) 2000 [Fr.sc sc117] { tm:=envOf 0 [dI n],ob:=[] }=(Rt (dA [dU (1:Int),dI n,dS [],dL [] []]) []:Tr):=by kernel_rfl
theorem num_ok (n:Int):FK 117 [.int .i64 n] (.agg [.int .u8 1,.int .i64 n,.str [],.slice [] []]):=by
 refine FnOK.tree hdraw fp117 (ctr_ok libT_ok qnone_ok) (PNum_eq n) ?_
 simp only[SS]
theorem int_at (ext:LD) (l:List Tm) (hl:l.length<=1073741823): ∀ (m i:Nat) (row:List Int),l.length-i=m->i<=l.length->row.length<=i →
  At Tryz.prog 0 (cut sc87 0) (hdInt (Tm.cellsL l) ext (intC .i64 row) l.length i) (FinQ true 0 rs87 fun r _=>r= .own 1 3 (intC .i64 (row++intsT (l.drop i)))):=by
 intro m
 induction m with
 | zero =>
  intro i row hm hi hr
  refine At.tree (ctr_ok libT_ok qnone_ok) (PInt2_eq (Tm.cellsL l) ext (intC .i64 row) l.length i 0 0 [] []) ?_
  have e:l.drop i=[]:=List.drop_eq_nil_of_le (by omega)
  rw[e]
  simp only[SS,intsT,List.filterMap_nil,List.append_nil]
  exact⟨fun h=>by omega,fun _=>trivial⟩
 | succ m ih =>
  intro i row hm hi hr
  have h1:i<l.length:=by omega
  have hx:(Tm.cellsL l)[i]? = some l[i].cells:=by rw[cellsL_map]; simp[h1]
  rw[drop_cons h1]
  generalize l[i]=x at hx
  obtain⟨k,n,s,a⟩:=x
  refine At.tree (ctr_ok libT_ok qnone_ok) (PInt2_eq (Tm.cellsL l) ext (intC .i64 row) l.length i k n s (Tm.cellsL a)) ?_
  have al: ∀ n:Int,allLen 1 [[dI n]]:=fun n=>by simp[allLen]
  simp only[SS,intC_len]
  refine⟨fun _=>⟨⟨by omega,hx⟩,fun hk=>⟨⟨al n,by omega⟩,by omega, ?_⟩,fun hk=>⟨by omega, ?_⟩⟩,fun h=>by omega⟩
  ·have:=ih (i+1) (row++[n]) (by omega) (by omega) (by simp; omega)
   have e:intsT (Tm.mk k n s a::l.drop (i+1))=n::intsT (l.drop (i+1)):=by rw[intsT_cons,if_pos (by omega)]
   have e2:intC .i64 (row++[n])=intC .i64 row++[[.int .i64 n]]:=by simp[intC]
   rw[e]
   rw[e2,List.append_assoc] at this
   exact this
  ·have:=ih (i+1) row (by omega) (by omega) (by omega)
   have e:intsT (Tm.mk k n s a::l.drop (i+1))=intsT (l.drop (i+1)):=by rw[intsT_cons,if_neg (by omega)]
   rw[e]
   exact this
theorem int_ok (ext:LD) (l:List Tm) (hl:l.length<=1073741823):FK 87 [.slice (Tm.cellsL l) ext] (.own 1 3 (intC .i64 (intsT l))):=by
 refine FnOK.tree hdraw fp87 (ctr_ok libT_ok qnone_ok) (PInt_eq (Tm.cellsL l) ext) ?_
 simp only[SS,cellsL_length]
 exact int_at ext l hl _ 0 [] rfl (Nat.zero_le _) (Nat.zero_le _)
def SetC (q res:List Int):Prop:=CF 120 [.vec 0] [(0,.arr false 4 35 (numC q))] fun r ob=>r= .vec 0/\ob=[(0,.arr true 4 35 (numC res))]
theorem spc7:spc sc88 7= .sc (.spec (.nxt (xt 44) 45 46))::aft sc88 7:=rfl
theorem spc6:spc sc88 6= .sc (.spec (.rng [so 43 (.load false 1) [xt 8]] 44 (xt 43)))::aft sc88 6:=rfl
theorem numC_len (l:List Int):(numC l).length=l.length:=by simp[numC]
theorem map_at (acc res:List Int) (hset: ∀ q:List Int,q.Perm acc->SetC q res) (hacc:acc.length<=1000) (l:List Nat) (hl:l.length=acc.length) (cl:Nat): ∀ (m:Nat) (ix:List Nat),ix.Nodup->(∀ i∈ix,i<acc.length)->acc.length-ix.length=m →
  swF Tryz.prog (6001+4001*m) 0 (cut sc88 1) ⟨[(12,.vec 0),(44,.ptr 1 0)],[(0,.arr false 4 35 (numC (ix.map fun i=>acc.getD i 0))),(1,.gen (.iter l ix cl) [.map 2]),(2,.gen (.mapB (intD acc) (intD acc) l cl) [])]⟩
   (FinQ true 0 rs88 fun r _=>r= .own 4 35 (numC res)):=by
 intro m
 induction m with
 | zero =>
  intro ix hnd hlt hm
  have hlen:ix.length<=acc.length:=by
   have:=List.Nodup.length_le_of_subset hnd (l₂:=List.range acc.length) (fun i hi=>List.mem_range.2 (hlt i hi))
   simpa using this
  refine swF.tree (n0:=4001) (n:=2000) (ctr_ok libT_ok qnone_ok) (POpM_eq (intD acc) (intD acc) l ix cl (numC (ix.map fun i=>acc.getD i 0))) ?_
  rw[ok_jmp,spc7]
  refine swF_spec ⟨1,l,ix,cl,2,intD acc,intD acc,rfl,rfl,rfl,by decide,fun hall=>⟨rfl, ?_⟩,fun i hi hn=>⟨rfl, ?_⟩⟩
  ·refine swF.tree (n0:=2000) (n:=2000) (ctr_ok libT_ok qnone_ok) (POpF_eq (intD acc) (intD acc) l ix cl (numC (ix.map fun i=>acc.getD i 0))) ?_
   rw[ok_jmp]
   refine swF.tree (n0:=0) (n:=2000) (ctr_ok libT_ok (asmO_ok _ _)) (POpE_eq (numC (ix.map fun i=>acc.getD i 0)) (numC res)) ?_
   simp only[SS]
   exact hset _ (perm_ix hnd hlt fun i hi=>hall i (by omega))
  ·exact absurd (full_ix hnd hlt (by omega) i (by omega)) hn
 | succ m ih =>
  intro ix hnd hlt hm
  rw[show 6001+4001*(m+1)=(4000+4001*(m+1)+1)+2000 by omega]
  refine swF.tree (n0:=4000+4001*(m+1)+1) (n:=2000) (ctr_ok libT_ok qnone_ok) (POpM_eq (intD acc) (intD acc) l ix cl (numC (ix.map fun i=>acc.getD i 0))) ?_
  rw[ok_jmp,spc7]
  refine swF_spec ⟨1,l,ix,cl,2,intD acc,intD acc,rfl,rfl,rfl,by decide,fun hall=>⟨rfl, ?_⟩,fun i hi hn=>⟨rfl, ?_⟩⟩
  ·have hp:=perm_ix hnd hlt fun i hi=>hall i (by omega)
   have:=hp.length_eq
   simp only[List.length_map] at this
   omega
  ·have hi':i<acc.length:=by omega
   have hI:=ih (ix++[i]) (by rw[List.nodup_append]; exact⟨hnd,by simp,fun a ha b hb e=>by simp at hb; subst hb; subst e; exact hn ha⟩) (fun j hj=>by
    rcases List.mem_append.1 hj with hj | hj
    ·exact hlt j hj
    ·simp at hj; omega) (by simp; omega)
   rw[show 4000+4001*(m+1)=(6001+4001*m)+2000 by omega]
   refine swF.tree (n0:=6001+4001*m) (n:=2000) (ctr_ok (asmP_ok _) qnone_ok) (POpT_eq (intD acc) (intD acc) l (ix++[i]) cl (numC (ix.map fun i=>acc.getD i 0)) (acc.getD i 0)) ?_
   have hlen:ix.length<=acc.length:=by
    have:=List.Nodup.length_le_of_subset hnd (l₂:=List.range acc.length) (fun i hi=>List.mem_range.2 (hlt i hi))
    simpa using this
   have e:numC (ix.map fun i=>acc.getD i 0)++[[dU 1,dI (acc.getD i 0),dS [],dL [] []]]=numC ((ix++[i]).map fun i=>acc.getD i 0):=by simp[numC]
   have hg:(intD acc)[i]? = some (.int .i64 (acc.getD i 0)):=by simp[intD,hi']
   simp only[SS,numC_len,List.length_map]
   rw[e]
   refine⟨?_,num_ok _,⟨by simp[allLen],by omega⟩,hI⟩
   simp[extD,lk,hg,kOK]
def partD (L:List (List Tm)):LD:=L.map fun l=>[.slice (Tm.cellsL l) []]
theorem partD_len (L:List (List Tm)):(partD L).length=L.length:=by simp[partD]
theorem partD_get {L:List (List Tm)} {i:Nat} (h:i<L.length):(partD L)[i]? = some [.slice (Tm.cellsL L[i]) []]:=by simp[partD,h]
section
variable (s:LU) (L:List (List Tm)) (ext:LD) (acc res:List Int) (hL:L.length<=1073741823) (hl: ∀ l∈L,l.length<=1073741823) (hacc:(fillS (opB s) (L.map intsT) 0 (List.replicate L.length 0,[])).2=acc) (hz:acc.length<=1000) (hset: ∀ q:List Int,q.Perm acc->SetC q res)
abbrev QOp (res:List Int):Exit->St->Prop:=FinQ true 0 rs88 fun r _=>r= .own 4 35 (numC res)
include hL hl hacc hz hset
theorem op3_at:At Tryz.prog 0 (frg sc88 2) ⟨[(2,.ptr 0 0),(5,.vec 1)],[(0,.cells [.str s]),(1,.arr true 1 110 (lisD (L.map intsT)))]⟩ (QOp res):=by
 refine At.tree (ctr_ok libT_ok qnone_ok) (POp2_eq s (lisD (L.map intsT))) ?_
 rw[ok_jmp]
 refine At.tree (ctr_ok libT_ok (QT.or_ok rowsQ_ok (asmA_ok _ _))) (POpR_eq s (lisD (L.map intsT)) (intD acc) (intD acc)) ?_
 have hI: ∀ l∈L.map intsT,l.length<=1073741824:=by
  intro l h
  obtain⟨l',h',rfl⟩:=List.mem_map.1 h
  have:=hl l' h'
  have:=List.length_filterMap_le Tm.int? l'
  unfold intsT
  omega
 have hR:=rwsO_ok s (L.map intsT) (by simp; omega) hI (by rw[List.length_map,hacc]; exact hz)
 rw[List.length_map,hacc] at hR
 simp only[SS]
 refine⟨hR, ?_⟩
 refine At.tree (ctr_ok libT_ok qnone_ok) (POp4_eq (intD acc) (intD acc)) ?_
 rw[ok_jmp]
 refine At.tree (ctr_ok libT_ok qnone_ok) (POp5_eq (intD acc) (intD acc)) ?_
 rw[ok_jmp,spc6]
 refine⟨_,swF_spec (n:=6001+4001*acc.length+2000) ⟨2,intD acc,intD acc,rfl,rfl,rfl,(by show (2:Nat)≠47; decide),fun l cl h1 h2 h3=>⟨rfl, ?_⟩⟩⟩
 refine swF.tree (n0:=6001+4001*acc.length) (n:=2000) (ctr_ok libT_ok qnone_ok) (POp6_eq (intD acc) (intD acc) l cl) ?_
 rw[ok_jmp]
 exact map_at acc res hset hz l (by rw[h1,intD_len]) cl _ [] List.nodup_nil (fun i hi=>by simp at hi) rfl
theorem opl_at: ∀ (m i:Nat),L.length-i=m->i<=L.length →
  At Tryz.prog 0 (cut sc88 0) (hdOp s (partD L) ext (lisD ((L.take i).map intsT)) L.length i) (QOp res):=by
 intro m
 induction m with
 | zero =>
  intro i hm hi
  refine At.tree (ctr_ok (asmP_ok _) qnone_ok) (POpL_eq s (partD L) ext (lisD ((L.take i).map intsT)) [] L.length i []) ?_
  have e:L.take i=L:=List.take_of_length_le (by omega)
  rw[e]
  simp only[SS]
  exact⟨fun h=>by omega,fun _=>op3_at s L acc res hL hl hacc hz hset⟩
 | succ m ih =>
  intro i hm hi
  have h1:i<L.length:=by omega
  have e:lisD ((L.take i).map intsT)++[[.slice (intC .i64 (intsT L[i])) []]]=lisD ((L.take (i+1)).map intsT):=by
   rw[List.take_add_one,List.getElem?_eq_getElem h1]
   simp only[lisD,List.map_append,Option.toList_some,List.map_cons,List.map_nil]
  refine At.tree (ctr_ok (asmP_ok _) qnone_ok) (POpL_eq s (partD L) ext (lisD ((L.take i).map intsT)) (Tm.cellsL L[i]) L.length i (intC .i64 (intsT L[i]))) ?_
  simp only[SS,lisD_len,List.length_map,List.length_take]
  rw[e]
  refine⟨fun _=>⟨⟨by omega,partD_get h1⟩,int_ok [] L[i] (hl _ (List.getElem_mem h1)),⟨by simp[allLen],by omega⟩,by omega,ih (i+1) (by omega) (by omega)⟩,fun h=>by omega⟩
theorem op_ok:FK 88 [.str s,.slice (partD L) ext] (.own 4 35 (numC res)):=by
 refine FnOK.tree hdraw fp88 (ctr_ok libT_ok qnone_ok) (POpA_eq s (partD L) ext) ?_
 rw[ok_jmp]
 refine At.tree (ctr_ok libT_ok qnone_ok) (POp0_eq s (partD L) ext) ?_
 rw[ok_jmp]
 refine At.tree (ctr_ok libT_ok qnone_ok) (POp1_eq s (partD L) ext) ?_
 rw[ok_jmp,partD_len]
 exact opl_at s L ext acc res hL hl hacc hz hset _ 0 rfl (Nat.zero_le _)
end
end Go.Proofs.YtobgkdlghljdlaaGreatDoor
/- The Match seat has no arith.spans. -/
namespace Go.Proofs.YtobgkdlghljdlaaGreatDoor
open Go.Sx
end Go.Proofs.YtobgkdlghljdlaaGreatDoor
/- arith.functions: its trees. -/
namespace Go.Proofs.YtobgkdlghljdlaaGreatDoor
open Go.Sx
theorem FRw_eq (es ext:LD):goT Tryz.prog (ctr libT) 0 (finF false 0 rs123) 2000 [Fr.sc sc123] { tm:=envOf 0 ([]++[dL es ext]++[]),ob:=[] }=(Rt (dF 149 [] [dP 0 0]) [(0,oC [dL es ext])]:Tr):=by kernel_rfl
theorem PFn_eq (s:LU) (es ext:LD):goT Tryz.prog (ctr libT) 0 (finF true 0 rs89) 2000 [Fr.sc sc89] { tm:=envOf 0 [dS s,dL es ext],ob:=[] }=(Jm (frg sc89 0) { tm:=[(1,dL es ext),(2,dP 0 0),(4,dP 1 0)],ob:=[(0,oC [dS s]),(1,oC [D.nils])] }:Tr):=by kernel_rfl
theorem PFn0_eq (s:LU) (es ext:LD) (b:Bool):goT Tryz.prog (ctr libT (asmA (dB b) id)) 0 (finF true 0 rs89) 2000 (frg sc89 0) { tm:=[(1,dL es ext),(2,dP 0 0),(4,dP 1 0)],ob:=[(0,oC [dS s]),(1,oC [D.nils])] }=(Ow (CF 121 [dL es ext,dF 122 [] []] [] fun r0 ob0=>r0=dB b/\ob0=[]) (brT b (Rt (dL [] []) []) (Jm (frg sc89 1) { tm:=[(1,dL es ext),(2,dP 0 0),(4,dP 1 0)],ob:=[(0,oC [dS s]),(1,oC [D.nils])] })):Tr):=by kernel_rfl
theorem PFn1_eq (s:LU) (es ext:LD):goT Tryz.prog (ctr libT) 0 (finF true 0 rs89) 2000 (frg sc89 1) { tm:=[(1,dL es ext),(2,dP 0 0),(4,dP 1 0)],ob:=[(0,oC [dS s]),(1,oC [D.nils])] }=(Jm (frg sc89 2) { tm:=[(1,dL es ext),(2,dP 0 0),(4,dP 1 0),(5,dI (1:Int))],ob:=[(0,oC [dS s]),(1,oC [D.nils])] }:Tr):=by kernel_rfl
theorem PFn2_eq (s:LU) (es ext:LD):goT Tryz.prog (ctr libT) 0 (finF true 0 rs89) 2000 (frg sc89 2) { tm:=[(1,dL es ext),(2,dP 0 0),(4,dP 1 0),(5,dI (1:Int))],ob:=[(0,oC [dS s]),(1,oC [D.nils])] }=(Jm (cut sc89 0) { tm:=[(1,dL es ext),(2,dP 0 0),(4,dP 1 0),(5,dI (1:Int)),(11,dL es ext),(12,dI (↑(List.length es):Int)),(13,dI (0:Int))],ob:=[(0,oC [dS s]),(1,oC [D.nils])] }:Tr):=by kernel_rfl
def hdFn (s:LU) (es ext:LD) (p m i:Int):St:=⟨[(1,.slice es ext),(2,.ptr 0 0),(4,.ptr 1 0),(5,.int .i64 p),(11,.slice es ext),(12,.int .i64 m),(13,.int .i64 i)],[(0,.cells [.str s]),(1,.cells [.nils])]⟩
theorem PFnL_eq (s:LU) (es ext:LD) (p m:Int) (i:Nat) (xs:LD):goT Tryz.prog (ctr limP qnone (eOne [dL xs []])) 0 (finF true 0 rs89) 2000 (cut sc89 0) (hdFn s es ext p m (↑i:Int))=(brT (decide ((↑i:Int)<m)) (Ow ((0:Int)<=(↑i:Int)/\es[Int.toNat (↑i:Int)]? = some [dL xs []]) (Ow ((-9223372036854775808:Int)<=p*(↑(List.length xs):Int)/\p*(↑(List.length xs):Int)<=(9223372036854775807:Int)) (Ow (p*(↑(List.length xs):Int)<=(1000:Int)) (Ow ((-9223372036854775808:Int)<=(↑i:Int)+(1:Int)/\(↑i:Int)+(1:Int)<=(9223372036854775807:Int)) (Jm (cut sc89 0) { tm:=[(1,dL es ext),(2,dP 0 0),(4,dP 1 0),(5,dI (p*(↑(List.length xs):Int))),(11,dL es ext),(12,dI m),(13,dI ((↑i:Int)+(1:Int)))],ob:=[(0,oC [dS s]),(1,oC [D.nils])] }))))) (Jm (frg sc89 3) { tm:=[(1,dL es ext),(2,dP 0 0),(4,dP 1 0)],ob:=[(0,oC [dS s]),(1,oC [D.nils])] }):Tr):=by kernel_rfl
def rowsT:QT:=fun d xs ob=>match d,xs,ob with
 | .func (.func f) [] [],[.slice es ext],[]=>if f=123 then some (.ok True (.func (.func 149) [] [.ptr 0 0]) [(0,.cells [.slice es ext])]) else none
 | _,_,_=>none
theorem rowsT_ok:rowsT.OK:=by
 intro d xs ob rt h
 unfold rowsT at h
 split at h
 ·split at h
  ·rename_i hf
   subst hf
   cases h
   intro _
   exact CallL.tree hdraw fp123 (ctr_ok libT_ok qnone_ok) (FRw_eq _ _) ⟨rfl,rfl⟩
  ·cases h
 ·cases h
def updTB (row out:LD) (n:Nat):Obs->Obs
 | []=>[]
 | (i,.arr false sz e _)::r=>(if i+1=n then (n,.arr false sz e out) else (i,.arr false sz e row))::updTB row out n r
 | (i,.cells [.vec j])::r=>(i,.cells [.vec (if j+1=n then n else j)])::updTB row out n r
 | x::r=>x::updTB row out n r
def updTA (row out:LD) (n:Nat):Obs->Obs
 | []=>[(n,.arr false 4 35 out)]
 | (i,.arr false sz e _)::r=>(i,.arr false sz e row)::updTA row out n r
 | (i,.cells [.nils])::r=>(i,.cells [.vec n])::updTA row out n r
 | x::r=>x::updTA row out n r
def uA (row out:LD) (ob:Obs):Obs:=updTA row out ob.length ob
def uB (row out:LD) (ob:Obs):Obs:=updTB row out ob.length ob
def keysT:List Nat:=[24,23,1,2,4]
def dsT (es:LD) (a c d:Nat):List D:=[.func (.func 149) [] [.ptr a 0],.slice es [],.slice es [],.ptr c 0,.ptr d 0]
def recT (st:LoopState) (pend:Option Code) (ds:List D):Ob:= .gen (.loop st pend #[25] (sc89.rngA 0) (sc89.rngB 0) 36 keysT) ds
def obTA (s:LU) (es:LD):Obs:=[(0,.cells [.slice es []]),(1,recT .ready none (dsT es 0 2 3)),(2,.cells [.str s]),(3,.cells [.nils])]
def obTB (s:LU) (es out:LD):Obs:=[(0,.cells [.slice es []]),(1,recT .ready none (dsT es 0 2 3)),(2,.cells [.str s]),(3,.cells [.vec 4]),(4,.arr false 4 35 out)]
def obFA (s:LU) (es row:LD):Obs:=[(0,.cells [.slice es []]),(1,.cells [.yld 4]),(2,.cells [.vec 5]),(3,.cells [.func (.func 150) [] [.ptr 0 0,.ptr 1 0,.ptr 2 0,.ptr 3 0]]),
 (4,recT .ready none (dsT es 0 6 7)),(5,.arr false 4 35 row),(6,.cells [.str s]),(7,.cells [.nils])]
def obFN (nm:Nat) (s:LU) (es row out:LD):Obs:=[(0,.cells [.slice es []]),(1,.cells [.yld 4]),(2,.cells [.vec 5]),(3,.cells [.func (.func 150) [] [.ptr 0 0,.ptr 1 0,.ptr 2 0,.ptr 3 0]]),
 (4,recT .ready none (dsT es 0 6 7)),(5,.arr false 4 35 row),(6,.cells [.str s]),(7,.cells [.vec nm]),(nm,.arr false 4 35 out)]
def obYA (s:LU) (es row:LD):Obs:=[(1,.arr false 4 35 row),(2,.cells [.slice es []]),(3,.cells [.str s]),(4,.cells [.nils])]
def obYB (s:LU) (es row out:LD):Obs:=[(1,.arr false 4 35 row),(2,.cells [.slice es []]),(3,.cells [.str s]),(4,.cells [.vec 5]),(5,.arr false 4 35 out)]
theorem PFn3_eq (s:LU) (es row out:LD):goT Tryz.prog (ctr libT (QT.or rowsT (asmA (D.tuple []) fun x=>obTB s es out))) 0 (finF true 0 rs89) 2000 (frg sc89 3) { tm:=[(1,dL es []),(2,dP 0 0),(4,dP 1 0)],ob:=[(0,oC [dS s]),(1,oC [D.nils])] }=(Ow True (Ow (CallL Tryz.prog (dF 149 [] [dP 0 0]) [D.yld 1] [(0,oC [dL es []]),(1,Ob.gen (Gen.loop LoopState.ready none #[25] (SC.reg [so 8 AOp.mv [xt 25]]) (SC.block 3 (SC.drw [0,0,0,4,14,1,0,127,255,511,255] [so 26 (AOp.load false 1) [xt 4],so 27 (AOp.load false 1) [xt 2],so 28 AOp.mv [xt 8],SOp.cd (some 29) none (xc (dF 124 [] [])) [xt 28],so 30 (AOp.build [dU (0:Int),dI (0:Int),dS [],dL [] []] [(0,1),(2,1),(3,1)]) [xc (dU (4:Int)),xt 27,xt 29],so 31 (AOp.len false) [xt 26],so 32 (AOp.bslice true 4 1 35 [dU (0:Int),dI (0:Int),dS [],dL [] []] [(0,4)]) [xc (dA [dU (0:Int),dI (0:Int),dS [],dL [] []])],SOp.app 33 none false 4 35 (xt 26) (xt 32),so 34 (AOp.iaddr 4) [xt 33,xt 31],SOp.st none (SK.c 4) (xt 34) (xt 30),SOp.st none (SK.c 1) (xt 4) (xt 33)])) 36 [24,23,1,2,4]) [dF 149 [] [dP 0 0],dL es [],dL es [],dP 2 0,dP 3 0]),(2,oC [dS s]),(3,oC [D.nils])] fun r0 ob0=>r0=D.tuple []/\ob0=[(0,oC [dL es []]),(1,Ob.gen (Gen.loop LoopState.ready none #[25] (SC.rngA sc89 0) (SC.rngB sc89 0) 36 [24,23,1,2,4]) [dF 149 [] [dP 0 0],dL es [],dL es [],dP 2 0,dP 3 0]),(2,oC [dS s]),(3,oC [dV 4]),(4,oR false 4 35 out)]) (Jm (frg sc89 4) { tm:=[(4,dP 0 0)],ob:=[(0,oC [dV 1]),(1,oR false 4 35 out)] })):Tr):=by kernel_rfl
theorem FR1_eq (s:LU) (es row out:LD):goT Tryz.prog (ctr libT (asmA (dB true) (uA row out))) 4 (finF false 4 rs149) 2000 [Fr.sc sc149] { tm:=envOf 0 ([]++[D.yld 1]++[dP 0 0]),ob:=obTA s es }=(Ow ((0:Int)<=(↑(List.length es):Int)/\(↑(List.length es):Int)*(56:Int)<=(281474976710656:Int)/\(↑(List.length es):Int)<=(1073741824:Int)) (Ow (CallL Tryz.prog (dF 150 [] [dP 0 0,dP 1 0,dP 2 0,dP 3 0]) [dI (0:Int)] [(0,oC [dL es []]),(1,oC [D.yld 4]),(2,oC [dV 5]),(3,oC [dF 150 [] [dP 0 0,dP 1 0,dP 2 0,dP 3 0]]),(4,Ob.gen (Gen.loop LoopState.ready none #[25] (SC.rngA sc89 0) (SC.rngB sc89 0) 36 [24,23,1,2,4]) [dF 149 [] [dP 0 0],dL es [],dL es [],dP 6 0,dP 7 0]),(5,oR false 4 35 (List.replicate (Int.toNat (↑(List.length es):Int)) [dU (0:Int),dI (0:Int),dS [],dL [] []])),(6,oC [dS s]),(7,oC [D.nils])] fun r0 ob0=>r0=dB true/\ob0=[(0,oC [dL es []]),(1,oC [D.yld 4]),(2,oC [dV 5]),(3,oC [dF 150 [] [dP 0 0,dP 1 0,dP 2 0,dP 3 0]]),(4,Ob.gen (Gen.loop LoopState.ready none #[25] (SC.rngA sc89 0) (SC.rngB sc89 0) 36 [24,23,1,2,4]) [dF 149 [] [dP 0 0],dL es [],dL es [],dP 6 0,dP 7 0]),(5,oR false 4 35 row),(6,oC [dS s]),(7,oC [dV 8]),(8,oR false 4 35 out)]) (Rt (D.tuple []) [(0,oC [dL es []]),(1,Ob.gen (Gen.loop LoopState.ready none #[25] (SC.rngA sc89 0) (SC.rngB sc89 0) 36 [24,23,1,2,4]) [dF 149 [] [dP 0 0],dL es [],dL es [],dP 2 0,dP 3 0]),(2,oC [dS s]),(3,oC [dV 4]),(4,oR false 4 35 out)])):Tr):=by kernel_rfl
theorem FlA_eq (s:LU) (es row xs row' out':LD) (k:Int):goT Tryz.prog (ctr libT (asmA (dB true) (uA row' out')) (eOne [dL xs []])) 8 (finF false 8 rs150) 2000 [Fr.sc sc150] { tm:=envOf 0 ([]++[dI k]++[dP 0 0,dP 1 0,dP 2 0,dP 3 0]),ob:=obFA s es row }=(brT (decide (k=(↑(List.length es):Int))) (Ow (CallL Tryz.prog (D.yld 0) [dV 1] [(0,Ob.gen (Gen.loop LoopState.ready none #[25] (SC.rngA sc89 0) (SC.rngB sc89 0) 36 [24,23,1,2,4]) [dF 149 [] [dP 2 0],dL es [],dL es [],dP 3 0,dP 4 0]),(1,oR false 4 35 row),(2,oC [dL es []]),(3,oC [dS s]),(4,oC [D.nils])] fun r0 ob0=>r0=dB true/\ob0=[(0,Ob.gen (Gen.loop LoopState.ready none #[25] (SC.rngA sc89 0) (SC.rngB sc89 0) 36 [24,23,1,2,4]) [dF 149 [] [dP 2 0],dL es [],dL es [],dP 3 0,dP 4 0]),(1,oR false 4 35 row'),(2,oC [dL es []]),(3,oC [dS s]),(4,oC [dV 5]),(5,oR false 4 35 out')]) (Rt (dB true) [(0,oC [dL es []]),(1,oC [D.yld 4]),(2,oC [dV 5]),(3,oC [dF 150 [] [dP 0 0,dP 1 0,dP 2 0,dP 3 0]]),(4,Ob.gen (Gen.loop LoopState.ready none #[25] (SC.rngA sc89 0) (SC.rngB sc89 0) 36 [24,23,1,2,4]) [dF 149 [] [dP 0 0],dL es [],dL es [],dP 6 0,dP 7 0]),(5,oR false 4 35 row'),(6,oC [dS s]),(7,oC [dV 8]),(8,oR false 4 35 out')])) (Ow ((0:Int)<=k/\es[Int.toNat k]? = some [dL xs []]) (Jm (cut sc150 0) { tm:=[(0,dI k),(3,dP 2 0),(4,dP 3 0),(19,dL xs []),(20,dI (↑(List.length xs):Int)),(21,dI (0:Int))],ob:=[(0,oC [dL es []]),(1,oC [D.yld 4]),(2,oC [dV 5]),(3,oC [dF 150 [] [dP 0 0,dP 1 0,dP 2 0,dP 3 0]]),(4,Ob.gen (Gen.loop LoopState.ready none #[25] (SC.rngA sc89 0) (SC.rngB sc89 0) 36 [24,23,1,2,4]) [dF 149 [] [dP 0 0],dL es [],dL es [],dP 6 0,dP 7 0]),(5,oR false 4 35 row),(6,oC [dS s]),(7,oC [D.nils])] })):Tr):=by kernel_rfl
theorem FlB_eq (s:LU) (es row out xs row' out':LD) (k:Int):goT Tryz.prog (ctr libT (asmA (dB true) (uB row' out')) (eOne [dL xs []])) 9 (finF false 9 rs150) 2000 [Fr.sc sc150] { tm:=envOf 0 ([]++[dI k]++[dP 0 0,dP 1 0,dP 2 0,dP 3 0]),ob:=obFN 8 s es row out }=(brT (decide (k=(↑(List.length es):Int))) (Ow (CallL Tryz.prog (D.yld 0) [dV 1] [(0,Ob.gen (Gen.loop LoopState.ready none #[25] (SC.rngA sc89 0) (SC.rngB sc89 0) 36 [24,23,1,2,4]) [dF 149 [] [dP 2 0],dL es [],dL es [],dP 3 0,dP 4 0]),(1,oR false 4 35 row),(2,oC [dL es []]),(3,oC [dS s]),(4,oC [dV 5]),(5,oR false 4 35 out)] fun r0 ob0=>r0=dB true/\ob0=[(0,Ob.gen (Gen.loop LoopState.ready none #[25] (SC.rngA sc89 0) (SC.rngB sc89 0) 36 [24,23,1,2,4]) [dF 149 [] [dP 2 0],dL es [],dL es [],dP 3 0,dP 4 0]),(1,oR false 4 35 row'),(2,oC [dL es []]),(3,oC [dS s]),(4,oC [dV 6]),(6,oR false 4 35 out')]) (Rt (dB true) [(0,oC [dL es []]),(1,oC [D.yld 4]),(2,oC [dV 5]),(3,oC [dF 150 [] [dP 0 0,dP 1 0,dP 2 0,dP 3 0]]),(4,Ob.gen (Gen.loop LoopState.ready none #[25] (SC.rngA sc89 0) (SC.rngB sc89 0) 36 [24,23,1,2,4]) [dF 149 [] [dP 0 0],dL es [],dL es [],dP 6 0,dP 7 0]),(5,oR false 4 35 row'),(6,oC [dS s]),(7,oC [dV 9]),(9,oR false 4 35 out')])) (Ow ((0:Int)<=k/\es[Int.toNat k]? = some [dL xs []]) (Jm (cut sc150 0) { tm:=[(0,dI k),(3,dP 2 0),(4,dP 3 0),(19,dL xs []),(20,dI (↑(List.length xs):Int)),(21,dI (0:Int))],ob:=[(0,oC [dL es []]),(1,oC [D.yld 4]),(2,oC [dV 5]),(3,oC [dF 150 [] [dP 0 0,dP 1 0,dP 2 0,dP 3 0]]),(4,Ob.gen (Gen.loop LoopState.ready none #[25] (SC.rngA sc89 0) (SC.rngB sc89 0) 36 [24,23,1,2,4]) [dF 149 [] [dP 0 0],dL es [],dL es [],dP 6 0,dP 7 0]),(5,oR false 4 35 row),(6,oC [dS s]),(7,oC [dV 8]),(8,oR false 4 35 out)] })):Tr):=by kernel_rfl
theorem FlA2_eq (s:LU) (es row xs row' out':LD) (k m:Int) (i:Nat) (kx nx:Int) (sx:LU) (ax:LD):goT Tryz.prog (ctr libT (asmA (dB true) (uA row' out')) (eOne (tC kx nx sx ax))) 8 (finF false 8 rs150) 2000 (cut sc150 0) (hdF k m (↑i:Int) xs (obFA s es row))=(brT (decide ((↑i:Int)<m)) (Ow ((0:Int)<=(↑i:Int)/\xs[Int.toNat (↑i:Int)]? = some (tC kx nx sx ax)) (Ow ((0:Int)<=k/\k<(↑(List.length row):Int)) (Ow (Int.toNat k<List.length row) (Ow ((-9223372036854775808:Int)<=k+(1:Int)/\k+(1:Int)<=(9223372036854775807:Int)) (Ow (CallL Tryz.prog (dF 150 [] [dP 0 0,dP 1 0,dP 2 0,dP 3 0]) [dI (k+(1:Int))] [(0,oC [dL es []]),(1,oC [D.yld 4]),(2,oC [dV 5]),(3,oC [dF 150 [] [dP 0 0,dP 1 0,dP 2 0,dP 3 0]]),(4,Ob.gen (Gen.loop LoopState.ready none #[25] (SC.rngA sc89 0) (SC.rngB sc89 0) 36 [24,23,1,2,4]) [dF 149 [] [dP 0 0],dL es [],dL es [],dP 6 0,dP 7 0]),(5,oR false 4 35 (List.set row (Int.toNat k) (tC kx nx sx ax))),(6,oC [dS s]),(7,oC [D.nils])] fun r0 ob0=>r0=dB true/\ob0=[(0,oC [dL es []]),(1,oC [D.yld 4]),(2,oC [dV 5]),(3,oC [dF 150 [] [dP 0 0,dP 1 0,dP 2 0,dP 3 0]]),(4,Ob.gen (Gen.loop LoopState.ready none #[25] (SC.rngA sc89 0) (SC.rngB sc89 0) 36 [24,23,1,2,4]) [dF 149 [] [dP 0 0],dL es [],dL es [],dP 6 0,dP 7 0]),(5,oR false 4 35 row'),(6,oC [dS s]),(7,oC [dV 8]),(8,oR false 4 35 out')]) (Ow ((-9223372036854775808:Int)<=(↑i:Int)+(1:Int)/\(↑i:Int)+(1:Int)<=(9223372036854775807:Int)) (Jm (cut sc150 0) { tm:=[(0,dI k),(3,dP 2 0),(4,dP 3 0),(19,dL xs []),(20,dI m),(21,dI ((↑i:Int)+(1:Int)))],ob:=[(0,oC [dL es []]),(1,oC [D.yld 4]),(2,oC [dV 5]),(3,oC [dF 150 [] [dP 0 0,dP 1 0,dP 2 0,dP 3 0]]),(4,Ob.gen (Gen.loop LoopState.ready none #[25] (SC.rngA sc89 0) (SC.rngB sc89 0) 36 [24,23,1,2,4]) [dF 149 [] [dP 0 0],dL es [],dL es [],dP 6 0,dP 7 0]),(5,oR false 4 35 row'),(6,oC [dS s]),(7,oC [dV 8]),(8,oR false 4 35 out')] }))))))) (Rt (dB true) [(0,oC [dL es []]),(1,oC [D.yld 4]),(2,oC [dV 5]),(3,oC [dF 150 [] [dP 0 0,dP 1 0,dP 2 0,dP 3 0]]),(4,Ob.gen (Gen.loop LoopState.ready none #[25] (SC.rngA sc89 0) (SC.rngB sc89 0) 36 [24,23,1,2,4]) [dF 149 [] [dP 0 0],dL es [],dL es [],dP 6 0,dP 7 0]),(5,oR false 4 35 row),(6,oC [dS s]),(7,oC [D.nils])]):Tr):=by kernel_rfl
theorem FlB2_eq (s:LU) (es row out xs row' out':LD) (k m:Int) (i:Nat) (kx nx:Int) (sx:LU) (ax:LD):goT Tryz.prog (ctr libT (asmA (dB true) (uB row' out')) (eOne (tC kx nx sx ax))) 9 (finF false 9 rs150) 2000 (cut sc150 0) (hdF k m (↑i:Int) xs (obFN 8 s es row out))=(brT (decide ((↑i:Int)<m)) (Ow ((0:Int)<=(↑i:Int)/\xs[Int.toNat (↑i:Int)]? = some (tC kx nx sx ax)) (Ow ((0:Int)<=k/\k<(↑(List.length row):Int)) (Ow (Int.toNat k<List.length row) (Ow ((-9223372036854775808:Int)<=k+(1:Int)/\k+(1:Int)<=(9223372036854775807:Int)) (Ow (CallL Tryz.prog (dF 150 [] [dP 0 0,dP 1 0,dP 2 0,dP 3 0]) [dI (k+(1:Int))] [(0,oC [dL es []]),(1,oC [D.yld 4]),(2,oC [dV 5]),(3,oC [dF 150 [] [dP 0 0,dP 1 0,dP 2 0,dP 3 0]]),(4,Ob.gen (Gen.loop LoopState.ready none #[25] (SC.rngA sc89 0) (SC.rngB sc89 0) 36 [24,23,1,2,4]) [dF 149 [] [dP 0 0],dL es [],dL es [],dP 6 0,dP 7 0]),(5,oR false 4 35 (List.set row (Int.toNat k) (tC kx nx sx ax))),(6,oC [dS s]),(7,oC [dV 8]),(8,oR false 4 35 out)] fun r0 ob0=>r0=dB true/\ob0=[(0,oC [dL es []]),(1,oC [D.yld 4]),(2,oC [dV 5]),(3,oC [dF 150 [] [dP 0 0,dP 1 0,dP 2 0,dP 3 0]]),(4,Ob.gen (Gen.loop LoopState.ready none #[25] (SC.rngA sc89 0) (SC.rngB sc89 0) 36 [24,23,1,2,4]) [dF 149 [] [dP 0 0],dL es [],dL es [],dP 6 0,dP 7 0]),(5,oR false 4 35 row'),(6,oC [dS s]),(7,oC [dV 9]),(9,oR false 4 35 out')]) (Ow ((-9223372036854775808:Int)<=(↑i:Int)+(1:Int)/\(↑i:Int)+(1:Int)<=(9223372036854775807:Int)) (Jm (cut sc150 0) { tm:=[(0,dI k),(3,dP 2 0),(4,dP 3 0),(19,dL xs []),(20,dI m),(21,dI ((↑i:Int)+(1:Int)))],ob:=[(0,oC [dL es []]),(1,oC [D.yld 4]),(2,oC [dV 5]),(3,oC [dF 150 [] [dP 0 0,dP 1 0,dP 2 0,dP 3 0]]),(4,Ob.gen (Gen.loop LoopState.ready none #[25] (SC.rngA sc89 0) (SC.rngB sc89 0) 36 [24,23,1,2,4]) [dF 149 [] [dP 0 0],dL es [],dL es [],dP 6 0,dP 7 0]),(5,oR false 4 35 row'),(6,oC [dS s]),(7,oC [dV 9]),(9,oR false 4 35 out')] }))))))) (Rt (dB true) [(0,oC [dL es []]),(1,oC [D.yld 4]),(2,oC [dV 5]),(3,oC [dF 150 [] [dP 0 0,dP 1 0,dP 2 0,dP 3 0]]),(4,Ob.gen (Gen.loop LoopState.ready none #[25] (SC.rngA sc89 0) (SC.rngB sc89 0) 36 [24,23,1,2,4]) [dF 149 [] [dP 0 0],dL es [],dL es [],dP 6 0,dP 7 0]),(5,oR false 4 35 row),(6,oC [dS s]),(7,oC [dV 8]),(8,oR false 4 35 out)]):Tr):=by kernel_rfl
theorem FlC2_eq (s:LU) (es row out xs row' out':LD) (k m:Int) (i:Nat) (kx nx:Int) (sx:LU) (ax:LD):goT Tryz.prog (ctr libT (asmA (dB true) (uB row' out')) (eOne (tC kx nx sx ax))) 8 (finF false 8 rs150) 2000 (cut sc150 0) (hdF k m (↑i:Int) xs (obFN 8 s es row out))=(brT (decide ((↑i:Int)<m)) (Ow ((0:Int)<=(↑i:Int)/\xs[Int.toNat (↑i:Int)]? = some (tC kx nx sx ax)) (Ow ((0:Int)<=k/\k<(↑(List.length row):Int)) (Ow (Int.toNat k<List.length row) (Ow ((-9223372036854775808:Int)<=k+(1:Int)/\k+(1:Int)<=(9223372036854775807:Int)) (Ow (CallL Tryz.prog (dF 150 [] [dP 0 0,dP 1 0,dP 2 0,dP 3 0]) [dI (k+(1:Int))] [(0,oC [dL es []]),(1,oC [D.yld 4]),(2,oC [dV 5]),(3,oC [dF 150 [] [dP 0 0,dP 1 0,dP 2 0,dP 3 0]]),(4,Ob.gen (Gen.loop LoopState.ready none #[25] (SC.rngA sc89 0) (SC.rngB sc89 0) 36 [24,23,1,2,4]) [dF 149 [] [dP 0 0],dL es [],dL es [],dP 6 0,dP 7 0]),(5,oR false 4 35 (List.set row (Int.toNat k) (tC kx nx sx ax))),(6,oC [dS s]),(7,oC [dV 8]),(8,oR false 4 35 out)] fun r0 ob0=>r0=dB true/\ob0=[(0,oC [dL es []]),(1,oC [D.yld 4]),(2,oC [dV 5]),(3,oC [dF 150 [] [dP 0 0,dP 1 0,dP 2 0,dP 3 0]]),(4,Ob.gen (Gen.loop LoopState.ready none #[25] (SC.rngA sc89 0) (SC.rngB sc89 0) 36 [24,23,1,2,4]) [dF 149 [] [dP 0 0],dL es [],dL es [],dP 6 0,dP 7 0]),(5,oR false 4 35 row'),(6,oC [dS s]),(7,oC [dV 9]),(9,oR false 4 35 out')]) (Ow ((-9223372036854775808:Int)<=(↑i:Int)+(1:Int)/\(↑i:Int)+(1:Int)<=(9223372036854775807:Int)) (Jm (cut sc150 0) { tm:=[(0,dI k),(3,dP 2 0),(4,dP 3 0),(19,dL xs []),(20,dI m),(21,dI ((↑i:Int)+(1:Int)))],ob:=[(0,oC [dL es []]),(1,oC [D.yld 4]),(2,oC [dV 5]),(3,oC [dF 150 [] [dP 0 0,dP 1 0,dP 2 0,dP 3 0]]),(4,Ob.gen (Gen.loop LoopState.ready none #[25] (SC.rngA sc89 0) (SC.rngB sc89 0) 36 [24,23,1,2,4]) [dF 149 [] [dP 0 0],dL es [],dL es [],dP 6 0,dP 7 0]),(5,oR false 4 35 row'),(6,oC [dS s]),(7,oC [dV 8]),(8,oR false 4 35 out')] }))))))) (Rt (dB true) [(0,oC [dL es []]),(1,oC [D.yld 4]),(2,oC [dV 5]),(3,oC [dF 150 [] [dP 0 0,dP 1 0,dP 2 0,dP 3 0]]),(4,Ob.gen (Gen.loop LoopState.ready none #[25] (SC.rngA sc89 0) (SC.rngB sc89 0) 36 [24,23,1,2,4]) [dF 149 [] [dP 0 0],dL es [],dL es [],dP 6 0,dP 7 0]),(5,oR false 4 35 row),(6,oC [dS s]),(7,oC [dV 8]),(8,oR false 4 35 out)]):Tr):=by kernel_rfl
theorem FlD2_eq (s:LU) (es row out xs row' out':LD) (k m:Int) (i:Nat) (kx nx:Int) (sx:LU) (ax:LD):goT Tryz.prog (ctr libT (asmA (dB true) (uB row' out')) (eOne (tC kx nx sx ax))) 9 (finF false 9 rs150) 2000 (cut sc150 0) (hdF k m (↑i:Int) xs (obFN 9 s es row out))=(brT (decide ((↑i:Int)<m)) (Ow ((0:Int)<=(↑i:Int)/\xs[Int.toNat (↑i:Int)]? = some (tC kx nx sx ax)) (Ow ((0:Int)<=k/\k<(↑(List.length row):Int)) (Ow (Int.toNat k<List.length row) (Ow ((-9223372036854775808:Int)<=k+(1:Int)/\k+(1:Int)<=(9223372036854775807:Int)) (Ow (CallL Tryz.prog (dF 150 [] [dP 0 0,dP 1 0,dP 2 0,dP 3 0]) [dI (k+(1:Int))] [(0,oC [dL es []]),(1,oC [D.yld 4]),(2,oC [dV 5]),(3,oC [dF 150 [] [dP 0 0,dP 1 0,dP 2 0,dP 3 0]]),(4,Ob.gen (Gen.loop LoopState.ready none #[25] (SC.rngA sc89 0) (SC.rngB sc89 0) 36 [24,23,1,2,4]) [dF 149 [] [dP 0 0],dL es [],dL es [],dP 6 0,dP 7 0]),(5,oR false 4 35 (List.set row (Int.toNat k) (tC kx nx sx ax))),(6,oC [dS s]),(7,oC [dV 8]),(8,oR false 4 35 out)] fun r0 ob0=>r0=dB true/\ob0=[(0,oC [dL es []]),(1,oC [D.yld 4]),(2,oC [dV 5]),(3,oC [dF 150 [] [dP 0 0,dP 1 0,dP 2 0,dP 3 0]]),(4,Ob.gen (Gen.loop LoopState.ready none #[25] (SC.rngA sc89 0) (SC.rngB sc89 0) 36 [24,23,1,2,4]) [dF 149 [] [dP 0 0],dL es [],dL es [],dP 6 0,dP 7 0]),(5,oR false 4 35 row'),(6,oC [dS s]),(7,oC [dV 9]),(9,oR false 4 35 out')]) (Ow ((-9223372036854775808:Int)<=(↑i:Int)+(1:Int)/\(↑i:Int)+(1:Int)<=(9223372036854775807:Int)) (Jm (cut sc150 0) { tm:=[(0,dI k),(3,dP 2 0),(4,dP 3 0),(19,dL xs []),(20,dI m),(21,dI ((↑i:Int)+(1:Int)))],ob:=[(0,oC [dL es []]),(1,oC [D.yld 4]),(2,oC [dV 5]),(3,oC [dF 150 [] [dP 0 0,dP 1 0,dP 2 0,dP 3 0]]),(4,Ob.gen (Gen.loop LoopState.ready none #[25] (SC.rngA sc89 0) (SC.rngB sc89 0) 36 [24,23,1,2,4]) [dF 149 [] [dP 0 0],dL es [],dL es [],dP 6 0,dP 7 0]),(5,oR false 4 35 row'),(6,oC [dS s]),(7,oC [dV 9]),(9,oR false 4 35 out')] }))))))) (Rt (dB true) [(0,oC [dL es []]),(1,oC [D.yld 4]),(2,oC [dV 5]),(3,oC [dF 150 [] [dP 0 0,dP 1 0,dP 2 0,dP 3 0]]),(4,Ob.gen (Gen.loop LoopState.ready none #[25] (SC.rngA sc89 0) (SC.rngB sc89 0) 36 [24,23,1,2,4]) [dF 149 [] [dP 0 0],dL es [],dL es [],dP 6 0,dP 7 0]),(5,oR false 4 35 row),(6,oC [dS s]),(7,oC [dV 9]),(9,oR false 4 35 out)]):Tr):=by kernel_rfl
theorem FCl_eq (e:List D) (es:LD):goT Tryz.prog (ctr libT) 1 (finF false 1 rs124) 2000 [Fr.sc sc124] { tm:=envOf 0 ([]++[dV 0]++[]),ob:=[(0,oR false 4 35 (e::es))] }=(Ow (allLen 4 (e::es)/\0+List.length (e::es)<=1073741824) (Rt (dV 1) [(0,oR false 4 35 (e::es)),(1,oR true 4 35 (e::es))]):Tr):=by kernel_rfl
def cloT (row:LD):QT:=asmO (.vec 1) [(0,.arr false 4 35 row),(1,.arr true 4 35 row)]
theorem TyA_eq (s:LU) (es row:LD):yldT Tryz.prog (ctr limP (cloT row)) 5 0 36 #[25] (SC.rngA sc89 0) (SC.rngB sc89 0) keysT (dsT es 2 3 4) 2000 { tm:=putP (List.zip [25] [dV 1]) (List.zip keysT (dsT es 2 3 4)),ob:=obYA s es row }=(Ow (CF 124 [dV 0] [(0,oR false 4 35 row)] fun r0 ob0=>r0=dV 1/\ob0=[(0,oR false 4 35 row),(1,oR true 4 35 row)]) (Ow (allLen 4 [[dU (0:Int),dI (0:Int),dS [],dL [] []]]/\1<=1073741824) (Ow ((0:Int)<=(0:Int)/\(0:Int)<(↑(1:Nat):Int)) (Ow (0<1) (Rt (dB true) [(0,Ob.gen (Gen.loop LoopState.ready none #[25] (SC.rngA sc89 0) (SC.rngB sc89 0) 36 [24,23,1,2,4]) [dF 149 [] [dP 2 0],dL es [],dL es [],dP 3 0,dP 4 0]),(1,oR false 4 35 row),(2,oC [dL es []]),(3,oC [dS s]),(4,oC [dV 5]),(5,oR false 4 35 [[dU (4:Int),dI (0:Int),dS s,dL row []]])])))):Tr):=by kernel_rfl
theorem TyB_eq (s:LU) (es row out:LD):yldT Tryz.prog (ctr limP (cloT row)) 6 0 36 #[25] (SC.rngA sc89 0) (SC.rngB sc89 0) keysT (dsT es 2 3 4) 2000 { tm:=putP (List.zip [25] [dV 1]) (List.zip keysT (dsT es 2 3 4)),ob:=obYB s es row out }=(Ow (CF 124 [dV 0] [(0,oR false 4 35 row)] fun r0 ob0=>r0=dV 1/\ob0=[(0,oR false 4 35 row),(1,oR true 4 35 row)]) (Ow (allLen 4 [[dU (0:Int),dI (0:Int),dS [],dL [] []]]/\List.length out+1<=1073741824) (Ow ((0:Int)<=(↑(List.length out):Int)/\(↑(List.length out):Int)<(↑(List.length (out++[[dU (0:Int),dI (0:Int),dS [],dL [] []]])):Int)) (Ow (Int.toNat (↑(List.length out):Int)<List.length (out++[[dU (0:Int),dI (0:Int),dS [],dL [] []]])) (Rt (dB true) [(0,Ob.gen (Gen.loop LoopState.ready none #[25] (SC.rngA sc89 0) (SC.rngB sc89 0) 36 [24,23,1,2,4]) [dF 149 [] [dP 2 0],dL es [],dL es [],dP 3 0,dP 4 0]),(1,oR false 4 35 row),(2,oC [dL es []]),(3,oC [dS s]),(4,oC [dV 6]),(6,oR false 4 35 (List.set (out++[[dU (0:Int),dI (0:Int),dS [],dL [] []]]) (Int.toNat (↑(List.length out):Int)) [dU (4:Int),dI (0:Int),dS s,dL row []]))])))):Tr):=by kernel_rfl
theorem PFn4_eq (out:LD):goT Tryz.prog (ctr libT) 0 (finF true 0 rs89) 2000 (frg sc89 4) { tm:=[(4,dP 0 0)],ob:=[(0,oC [dV 1]),(1,oR false 4 35 out)] }=(Rt (D.own 4 35 out) []:Tr):=by kernel_rfl
end Go.Proofs.YtobgkdlghljdlaaGreatDoor
/- arith.functions: all rows of lists. -/
namespace Go.Proofs.YtobgkdlghljdlaaGreatDoor
open Go.Sx
theorem allLen_cells (l:List Tm):allLen 4 (Tm.cellsL l):=by
 rw[cellsL_map]
 exact allLen_map cells_length l
theorem clo_ok (row:List Tm) (hr:row≠[]) (hl:row.length<=1073741824):CF 124 [.vec 0] [(0,.arr false 4 35 (Tm.cellsL row))]
  fun r ob=>r= .vec 1/\ob=[(0,.arr false 4 35 (Tm.cellsL row)),(1,.arr true 4 35 (Tm.cellsL row))]:=by
 have ha:=allLen_cells row
 have hn:=cellsL_length row
 match row,hr with
 | x::r,_ =>
  simp only[Tm.cellsL] at ha hn ⊢
  refine CallL.tree hdraw fp124 (ctr_ok libT_ok qnone_ok) (FCl_eq x.cells (Tm.cellsL r)) ?_
  rw[ok_owe,ok_ret]
  exact⟨⟨ha,by omega⟩,rfl,rfl⟩
theorem yldA_ok (s:LU) (L:List (List Tm)) (row:List Tm) (hr:row≠[]) (hl:row.length<=1073741824):CallL Tryz.prog (.yld 0) [.vec 1] ((0,recT .ready none (dsT (partD L) 2 3 4))::obYA s (partD L) (Tm.cellsL row))
  fun r ob=>r= .bool true/\ob=(0,recT .ready none (dsT (partD L) 2 3 4))::[(1,.arr false 4 35 (Tm.cellsL row)),(2,.cells [.slice (partD L) []]),(3,.cells [.str s]),(4,.cells [.vec 5]),(5,.arr false 4 35 (Tm.cellsL (outF s row [])))]:=by
 refine CallL.yldT hdraw (ctr_ok limP_ok (asmO_ok _ _)) rfl (TyA_eq s (partD L) (Tm.cellsL row)) ?_
 simp only[SS]
 refine⟨clo_ok row hr hl,⟨by simp[allLen],by decide⟩,by decide,by decide, ?_⟩
 rfl
theorem set_last {α:Type} (l:List α) (a b:α):(l++[a]).set l.length b=l++[b]:=by simp
theorem yldB_ok (s:LU) (L:List (List Tm)) (row acc:List Tm) (hr:row≠[]) (hl:row.length<=1073741824) (h:(outF s row acc).length<=1000):CallL Tryz.prog (.yld 0) [.vec 1] ((0,recT .ready none (dsT (partD L) 2 3 4))::obYB s (partD L) (Tm.cellsL row) (Tm.cellsL acc))
  fun r ob=>r= .bool true/\ob=(0,recT .ready none (dsT (partD L) 2 3 4))::[(1,.arr false 4 35 (Tm.cellsL row)),(2,.cells [.slice (partD L) []]),(3,.cells [.str s]),(4,.cells [.vec 6]),(6,.arr false 4 35 (Tm.cellsL (outF s row acc)))]:=by
 have h2:acc.length+1<=1000:=by simpa [outF] using h
 refine CallL.yldT hdraw (ctr_ok limP_ok (asmO_ok _ _)) rfl (TyB_eq s (partD L) (Tm.cellsL row) (Tm.cellsL acc)) ?_
 simp only[SS,cellsL_length,List.length_append,List.length_cons,List.length_nil]
 refine⟨clo_ok row hr hl,⟨by simp[allLen],by omega⟩,by omega,by omega, ?_⟩
 have e:(Tm.cellsL acc++[[dU 0,dI 0,dS [],dL [] []]]).set acc.length [dU 4,dI 0,dS s,dL (Tm.cellsL row) []]=Tm.cellsL (outF s row acc):=by
  rw[<- cellsL_length acc,set_last,outF,cellsL_app]; rfl
 rw[e]
 rfl
def FilA (s:LU) (L:List (List Tm)) (k:Nat) (row:List Tm):Prop:=CallL Tryz.prog (.func (.func 150) [] [.ptr 0 0,.ptr 1 0,.ptr 2 0,.ptr 3 0]) [.int .i64 k] (obFA s (partD L) (Tm.cellsL row))
 fun r ob=>r= .bool true/\ob=obFN 8 s (partD L) (Tm.cellsL (fillS (outF s) (L.drop k) k (row,[])).1) (Tm.cellsL (fillS (outF s) (L.drop k) k (row,[])).2)
def FilB (s:LU) (L:List (List Tm)) (k:Nat) (row acc:List Tm):Prop:=CallL Tryz.prog (.func (.func 150) [] [.ptr 0 0,.ptr 1 0,.ptr 2 0,.ptr 3 0]) [.int .i64 k] (obFN 8 s (partD L) (Tm.cellsL row) (Tm.cellsL acc))
 fun r ob=>r= .bool true/\ob=obFN 9 s (partD L) (Tm.cellsL (fillS (outF s) (L.drop k) k (row,acc)).1) (Tm.cellsL (fillS (outF s) (L.drop k) k (row,acc)).2)
abbrev fldT (s:LU) (L:List (List Tm)) (k:Nat) (l:List Tm) (p:List Tm × List Tm):List Tm × List Tm:=l.foldl (fun p x=>fillS (outF s) (L.drop (k+1)) (k+1) (p.1.set k x,p.2)) p
theorem flC_at (s:LU) (L:List (List Tm)) (k:Nat) (hk:k<L.length) (hL:L.length<=1073741824) (l:List Tm) (hl:l.length<=1073741824)
  (HF: ∀ row acc,row.length=L.length->(fillS (outF s) (L.drop (k+1)) (k+1) (row,acc)).2.length<=1000->FilB s L (k+1) row acc): ∀ (m i:Nat) (row acc:List Tm),l.length-i=m->i<=l.length->row.length=L.length->(fldT s L k (l.drop i) (row,acc)).2.length<=1000 →
  At Tryz.prog 8 (cut sc150 0) (hdF k l.length i (Tm.cellsL l) (obFN 8 s (partD L) (Tm.cellsL row) (Tm.cellsL acc))) (FinQ false 8 rs150 fun r ob=>r= .bool true/\ob=obFN 8 s (partD L) (Tm.cellsL (fldT s L k (l.drop i) (row,acc)).1) (Tm.cellsL (fldT s L k (l.drop i) (row,acc)).2)):=by
 intro m
 induction m with
 | zero =>
  intro i row acc hm hi hrow hz
  refine At.tree (ctr_ok libT_ok (asmA_ok _ _)) (FlC2_eq s (partD L) (Tm.cellsL row) (Tm.cellsL acc) (Tm.cellsL l) [] [] k l.length i 0 0 [] []) ?_
  have e:l.drop i=[]:=List.drop_eq_nil_of_le (by omega)
  rw[e]
  simp only[SS]
  exact⟨fun h=>by omega,fun _=>rfl⟩
 | succ m ih =>
  intro i row acc hm hi hrow hz
  have h1:i<l.length:=by omega
  have hx:=cellsL_get h1
  rw[fldT,drop_cons h1,List.foldl_cons] at hz
  simp only[fldT]
  rw[drop_cons h1,List.foldl_cons]
  have hlen:(fillS (outF s) (L.drop (k+1)) (k+1) (row.set k l[i],acc)).1.length=L.length:=by rw[fillS_len]; simpa using hrow
  have hmono:=fold_mono (z:=List.length) (outF_len s) (L.drop (k+1)) k (l.drop (i+1)) (fillS (outF s) (L.drop (k+1)) (k+1) (row.set k l[i],acc))
  have hC:=HF (row.set k l[i]) acc (by simpa using hrow) (Nat.le_trans hmono hz)
  unfold FilB at hC
  have hI:=ih (i+1) (fillS (outF s) (L.drop (k+1)) (k+1) (row.set k l[i],acc)).1 (fillS (outF s) (L.drop (k+1)) (k+1) (row.set k l[i],acc)).2 (by omega) (by omega) hlen hz
  simp only[fldT] at hI
  generalize fillS (outF s) (L.drop (k+1)) (k+1) (row.set k l[i],acc)=p at hC hI ⊢
  generalize l[i]=x at hx hC
  obtain⟨kx,nx,sx,ax⟩:=x
  have hset:=cellsL_set row k kx nx sx ax
  refine At.tree (ctr_ok libT_ok (asmA_ok _ _)) (FlC2_eq s (partD L) (Tm.cellsL row) (Tm.cellsL acc) (Tm.cellsL l) (Tm.cellsL p.1) (Tm.cellsL p.2) k l.length i kx nx sx (Tm.cellsL ax)) ?_
  simp only[SS,cellsL_length,hset]
  exact⟨fun _=>⟨⟨by omega,hx⟩,by omega,by omega,by omega,hC,by omega,hI⟩,fun h=>by omega⟩
theorem flD_at (s:LU) (L:List (List Tm)) (k:Nat) (hk:k<L.length) (hL:L.length<=1073741824) (l:List Tm) (hl:l.length<=1073741824)
  (HF: ∀ row acc,row.length=L.length->(fillS (outF s) (L.drop (k+1)) (k+1) (row,acc)).2.length<=1000->FilB s L (k+1) row acc): ∀ (m i:Nat) (row acc:List Tm),l.length-i=m->i<=l.length->row.length=L.length->(fldT s L k (l.drop i) (row,acc)).2.length<=1000 →
  At Tryz.prog 9 (cut sc150 0) (hdF k l.length i (Tm.cellsL l) (obFN 9 s (partD L) (Tm.cellsL row) (Tm.cellsL acc))) (FinQ false 9 rs150 fun r ob=>r= .bool true/\ob=obFN 9 s (partD L) (Tm.cellsL (fldT s L k (l.drop i) (row,acc)).1) (Tm.cellsL (fldT s L k (l.drop i) (row,acc)).2)):=by
 intro m
 induction m with
 | zero =>
  intro i row acc hm hi hrow hz
  refine At.tree (ctr_ok libT_ok (asmA_ok _ _)) (FlD2_eq s (partD L) (Tm.cellsL row) (Tm.cellsL acc) (Tm.cellsL l) [] [] k l.length i 0 0 [] []) ?_
  have e:l.drop i=[]:=List.drop_eq_nil_of_le (by omega)
  rw[e]
  simp only[SS]
  exact⟨fun h=>by omega,fun _=>rfl⟩
 | succ m ih =>
  intro i row acc hm hi hrow hz
  have h1:i<l.length:=by omega
  have hx:=cellsL_get h1
  rw[fldT,drop_cons h1,List.foldl_cons] at hz
  simp only[fldT]
  rw[drop_cons h1,List.foldl_cons]
  have hlen:(fillS (outF s) (L.drop (k+1)) (k+1) (row.set k l[i],acc)).1.length=L.length:=by rw[fillS_len]; simpa using hrow
  have hmono:=fold_mono (z:=List.length) (outF_len s) (L.drop (k+1)) k (l.drop (i+1)) (fillS (outF s) (L.drop (k+1)) (k+1) (row.set k l[i],acc))
  have hC:=HF (row.set k l[i]) acc (by simpa using hrow) (Nat.le_trans hmono hz)
  unfold FilB at hC
  have hI:=ih (i+1) (fillS (outF s) (L.drop (k+1)) (k+1) (row.set k l[i],acc)).1 (fillS (outF s) (L.drop (k+1)) (k+1) (row.set k l[i],acc)).2 (by omega) (by omega) hlen hz
  simp only[fldT] at hI
  generalize fillS (outF s) (L.drop (k+1)) (k+1) (row.set k l[i],acc)=p at hC hI ⊢
  generalize l[i]=x at hx hC
  obtain⟨kx,nx,sx,ax⟩:=x
  have hset:=cellsL_set row k kx nx sx ax
  refine At.tree (ctr_ok libT_ok (asmA_ok _ _)) (FlD2_eq s (partD L) (Tm.cellsL row) (Tm.cellsL acc) (Tm.cellsL l) (Tm.cellsL p.1) (Tm.cellsL p.2) k l.length i kx nx sx (Tm.cellsL ax)) ?_
  simp only[SS,cellsL_length,hset]
  exact⟨fun _=>⟨⟨by omega,hx⟩,by omega,by omega,by omega,hC,by omega,hI⟩,fun h=>by omega⟩
theorem filAB (s:LU) (L:List (List Tm)) (hL:L.length<=1073741824) (hl: ∀ l∈L,l≠[]/\l.length<=1073741824) (h0:L≠[]): ∀ (m k:Nat),L.length-k=m->k<=L.length->(∀ row:List Tm,row.length=L.length->(fillS (outF s) (L.drop k) k (row,[])).2.length<=1000->FilA s L k row) ∧
  (∀ row acc:List Tm,row.length=L.length->(fillS (outF s) (L.drop k) k (row,acc)).2.length<=1000->FilB s L k row acc):=by
 have hL0:0<L.length:=List.length_pos_iff.2 h0
 intro m
 induction m with
 | zero =>
  intro k hm hk
  have e:L.drop k=[]:=List.drop_eq_nil_of_le (by omega)
  have hrow0: ∀ row:List Tm,row.length=L.length->row≠[]:=fun row h e=>by rw[e] at h; simp at h; omega
  refine⟨fun row hrow hz=> ?_,fun row acc hrow hz=> ?_⟩
  ·unfold FilA
   rw[e] at hz ⊢
   simp only[fillS] at hz ⊢
   refine CallL.tree hdraw fp150 (ctr_ok libT_ok (asmA_ok _ _)) (FlA_eq s (partD L) (Tm.cellsL row) [] (Tm.cellsL row) (Tm.cellsL (outF s row [])) k) ?_
   simp only[SS,partD_len]
   exact⟨fun _=>⟨yldA_ok s L row (hrow0 row hrow) (by omega),rfl⟩,fun h=>by omega⟩
  ·unfold FilB
   rw[e] at hz ⊢
   simp only[fillS] at hz ⊢
   refine CallL.tree hdraw fp150 (ctr_ok libT_ok (asmA_ok _ _)) (FlB_eq s (partD L) (Tm.cellsL row) (Tm.cellsL acc) [] (Tm.cellsL row) (Tm.cellsL (outF s row acc)) k) ?_
   simp only[SS,partD_len]
   exact⟨fun _=>⟨yldB_ok s L row acc (hrow0 row hrow) (by omega) hz,rfl⟩,fun h=>by omega⟩
 | succ m ih =>
  intro k hm hk
  have h1:k<L.length:=by omega
  obtain⟨ihA,ihB⟩:=ih (k+1) (by omega) (by omega)
  obtain⟨hne,hlk⟩:=hl L[k] (List.getElem_mem h1)
  have hg:=partD_get h1
  have hd:=drop_cons h1
  generalize hlq:L[k]=l at hne hlk hg hd
  obtain⟨x,q,rfl⟩: ∃ x q,l=x::q:=by
   cases l with
   | nil=>exact absurd rfl hne
   | cons x q=>exact⟨x,q,rfl⟩
  have hql:q.length+1<=1073741824:=by simpa using hlk
  refine⟨fun row hrow hz=> ?_,fun row acc hrow hz=> ?_⟩
  ·rw[hd] at hz
   simp only[fillS,List.foldl_cons] at hz
   have hmono:=fold_mono (z:=List.length) (outF_len s) (L.drop (k+1)) k q (fillS (outF s) (L.drop (k+1)) (k+1) (row.set k x,[]))
   have hC:=ihA (row.set k x) (by simpa using hrow) (Nat.le_trans hmono hz)
   have hlen:(fillS (outF s) (L.drop (k+1)) (k+1) (row.set k x,[])).1.length=L.length:=by rw[fillS_len]; simpa using hrow
   have hI:=flC_at s L k h1 hL (x::q) hlk ihB _ 1 (fillS (outF s) (L.drop (k+1)) (k+1) (row.set k x,[])).1 (fillS (outF s) (L.drop (k+1)) (k+1) (row.set k x,[])).2 rfl (by simp) hlen hz
   unfold FilA at hC ⊢
   rw[hd]
   simp only[fillS,List.foldl_cons]
   simp only[fldT,List.drop_succ_cons,List.drop_zero] at hI
   generalize fillS (outF s) (L.drop (k+1)) (k+1) (row.set k x,[])=p at hC hI
   obtain⟨kx,nx,sx,ax⟩:=x
   have hset:=cellsL_set row k kx nx sx ax
   refine CallL.tree hdraw fp150 (ctr_ok libT_ok (asmA_ok _ _)) (FlA_eq s (partD L) (Tm.cellsL row) (Tm.cellsL (.mk kx nx sx ax::q)) [] [] k) ?_
   simp only[SS,partD_len]
   refine⟨fun h=>by omega,fun _=>⟨⟨by omega,hg⟩, ?_⟩⟩
   refine At.tree (ctr_ok libT_ok (asmA_ok _ _)) (FlA2_eq s (partD L) (Tm.cellsL row) (Tm.cellsL (.mk kx nx sx ax::q)) (Tm.cellsL p.1) (Tm.cellsL p.2) k (Tm.cellsL (.mk kx nx sx ax::q)).length 0 kx nx sx (Tm.cellsL ax)) ?_
   simp only[SS,cellsL_length,List.length_cons,hset]
   refine⟨fun _=>⟨⟨by omega,rfl⟩,by omega,by omega,by omega,hC,by omega, ?_⟩,fun h=>by omega⟩
   rw[List.length_cons] at hI
   exact hI
  ·rw[hd] at hz
   simp only[fillS,List.foldl_cons] at hz
   have hmono:=fold_mono (z:=List.length) (outF_len s) (L.drop (k+1)) k q (fillS (outF s) (L.drop (k+1)) (k+1) (row.set k x,acc))
   have hC:=ihB (row.set k x) acc (by simpa using hrow) (Nat.le_trans hmono hz)
   have hlen:(fillS (outF s) (L.drop (k+1)) (k+1) (row.set k x,acc)).1.length=L.length:=by rw[fillS_len]; simpa using hrow
   have hI:=flD_at s L k h1 hL (x::q) hlk ihB _ 1 (fillS (outF s) (L.drop (k+1)) (k+1) (row.set k x,acc)).1 (fillS (outF s) (L.drop (k+1)) (k+1) (row.set k x,acc)).2 rfl (by simp) hlen hz
   unfold FilB at hC ⊢
   rw[hd]
   simp only[fillS,List.foldl_cons]
   simp only[fldT,List.drop_succ_cons,List.drop_zero] at hI
   generalize fillS (outF s) (L.drop (k+1)) (k+1) (row.set k x,acc)=p at hC hI
   obtain⟨kx,nx,sx,ax⟩:=x
   have hset:=cellsL_set row k kx nx sx ax
   refine CallL.tree hdraw fp150 (ctr_ok libT_ok (asmA_ok _ _)) (FlB_eq s (partD L) (Tm.cellsL row) (Tm.cellsL acc) (Tm.cellsL (.mk kx nx sx ax::q)) [] [] k) ?_
   simp only[SS,partD_len]
   refine⟨fun h=>by omega,fun _=>⟨⟨by omega,hg⟩, ?_⟩⟩
   refine At.tree (ctr_ok libT_ok (asmA_ok _ _)) (FlB2_eq s (partD L) (Tm.cellsL row) (Tm.cellsL acc) (Tm.cellsL (.mk kx nx sx ax::q)) (Tm.cellsL p.1) (Tm.cellsL p.2) k (Tm.cellsL (.mk kx nx sx ax::q)).length 0 kx nx sx (Tm.cellsL ax)) ?_
   simp only[SS,cellsL_length,List.length_cons,hset]
   refine⟨fun _=>⟨⟨by omega,rfl⟩,by omega,by omega,by omega,hC,by omega, ?_⟩,fun h=>by omega⟩
   rw[List.length_cons] at hI
   exact hI
end Go.Proofs.YtobgkdlghljdlaaGreatDoor
/- arith.set,run. -/
namespace Go.Proofs.YtobgkdlghljdlaaGreatDoor
open Go.Sx
theorem set_run {q res:List Int} (h:callE tab (go Tryz.prog tab 3000) (.func (.func 120) [] []) [.vec 0] [(0,.arr false 4 35 (numC q))]=some (.vec 0,[(0,.arr false 4 35 (numC res))])):SetC q res :=
 CallL.frz (callE_ok hdraw tab_ok 3000 h)
theorem set0:SetC [] []:=set_run (by kernel_rfl)
end Go.Proofs.YtobgkdlghljdlaaGreatDoor
