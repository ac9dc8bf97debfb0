/- Own work: a layer over the kit: plain data,a walk over it,its soundness. -/
import Derived.Test.YtobgkdlghljdlaaGreatDoorLibT
import Derived.Test.YtobgkdlghljdlaaGreatDoorSx8
set_option linter.unusedSectionVars false
set_option linter.unusedVariables false
set_option linter.unusedSimpArgs false
set_option linter.deprecated false
set_option maxRecDepth 100000
/- arith.Calc. -/
namespace Go.Proofs.YtobgkdlghljdlaaGreatDoor
open Go.Sx
theorem PFit_eq (n:Int):goT Tryz.prog (ctr libT) 0 (finF true 0 rs143) 2000 [Fr.sc sc143] { tm:=envOf 0 [dI n],ob:=[] }=(brT (decide ((-2147483647:Int)<=n)) (Rt (dB (decide (n<=(2147483647:Int)))) []) (Rt (dB false) []):Tr):=by kernel_rfl
theorem fit_ok (n:Int):FK 143 [.int .i64 n] (.bool (fitsB n)):=by
 refine FnOK.tree hdraw fp143 (ctr_ok libT_ok qnone_ok) (PFit_eq n) ?_
 simp only[SS,fitsB]
 exact⟨fun h=>by simp[h],fun h=>by simp[h]⟩
theorem PSign_eq (s:LU):goT Tryz.prog (ctr libT) 0 (finF true 0 rs144) 2000 [Fr.sc sc144] { tm:=envOf 0 [dS s],ob:=[] }=(brT (decide (s=[(45:UInt8)])) (Rt (dI (1:Int)) []) (Rt (dI (0:Int)) []):Tr):=by kernel_rfl
theorem sgn_ok (s:LU):FK 144 [.str s] (.int .i64 (if s=[45] then 1 else 0)):=by
 refine FnOK.tree hdraw fp144 (ctr_ok libT_ok qnone_ok) (PSign_eq s) ?_
 simp only[SS]
 exact⟨fun h=>by rw[if_pos h],fun h=>by rw[if_neg h]⟩
abbrev abO (a b:Int):Obs:=[(0,.cells [.int .i64 a]),(1,.cells [.int .i64 b])]
theorem PC1_eq (a b:Int):goT Tryz.prog (ctr libT) 2 (finF false 2 rs180) 2000 [Fr.sc sc180] { tm:=envOf 0 ([]++[]++[dP 0 0,dP 1 0]),ob:=[(0,oC [dI a]),(1,oC [dI b])] }=(Ow ((-9223372036854775808:Int)<=a+b/\a+b<=(9223372036854775807:Int)) (Rt (dI (a+b)) [(0,oC [dI a]),(1,oC [dI b])]):Tr):=by kernel_rfl
theorem PC2_eq (a b:Int):goT Tryz.prog (ctr libT) 2 (finF false 2 rs181) 2000 [Fr.sc sc181] { tm:=envOf 0 ([]++[]++[dP 0 0,dP 1 0]),ob:=[(0,oC [dI a]),(1,oC [dI b])] }=(Ow ((-9223372036854775808:Int)<=a-b/\a-b<=(9223372036854775807:Int)) (Rt (dI (a-b)) [(0,oC [dI a]),(1,oC [dI b])]):Tr):=by kernel_rfl
theorem PC3_eq (a b:Int):goT Tryz.prog (ctr libT) 2 (finF false 2 rs182) 2000 [Fr.sc sc182] { tm:=envOf 0 ([]++[]++[dP 0 0,dP 1 0]),ob:=[(0,oC [dI a]),(1,oC [dI b])] }=(Ow ((-9223372036854775808:Int)<=a*b/\a*b<=(9223372036854775807:Int)) (Rt (dI (a*b)) [(0,oC [dI a]),(1,oC [dI b])]):Tr):=by kernel_rfl
theorem PC4_eq (a b:Int):goT Tryz.prog (ctr libT) 2 (finF false 2 rs183) 2000 [Fr.sc sc183] { tm:=envOf 0 ([]++[]++[dP 0 0,dP 1 0]),ob:=[(0,oC [dI a]),(1,oC [dI b])] }=(Ow (b≠(0:Int)) (Ow ((-9223372036854775808:Int)<=Int.tdiv a b/\Int.tdiv a b<=(9223372036854775807:Int)) (Rt (dI (Int.tdiv a b)) [(0,oC [dI a]),(1,oC [dI b])])):Tr):=by kernel_rfl
theorem PC5_eq (a b:Int):goT Tryz.prog (ctr libT) 2 (finF false 2 rs184) 2000 [Fr.sc sc184] { tm:=envOf 0 ([]++[]++[dP 0 0,dP 1 0]),ob:=[(0,oC [dI a]),(1,oC [dI b])] }=(Ow (b≠(0:Int)) (Rt (dI (Int.tmod a b)) [(0,oC [dI a]),(1,oC [dI b])]):Tr):=by kernel_rfl
def ClC (f:FuncId) (a b r:Int):Prop:=CallL Tryz.prog (.func (.func f) [] [.ptr 0 0,.ptr 1 0]) [] (abO a b) fun r0 ob0=>r0= .int .i64 r/\ob0=abO a b
theorem c1_ok (a b:Int) (ha:fitsB a=true) (hb:fitsB b=true):ClC 180 a b (a+b):=by
 rw[fitsB_iff] at ha hb
 refine CallL.tree hdraw fp180 (ctr_ok libT_ok qnone_ok) (PC1_eq a b) ?_
 simp only[SS]
 omega
theorem c2_ok (a b:Int) (ha:fitsB a=true) (hb:fitsB b=true):ClC 181 a b (a-b):=by
 rw[fitsB_iff] at ha hb
 refine CallL.tree hdraw fp181 (ctr_ok libT_ok qnone_ok) (PC2_eq a b) ?_
 simp only[SS]
 omega
theorem c3_ok (a b:Int) (ha:fitsB a=true) (hb:fitsB b=true):ClC 182 a b (a*b):=by
 have:=mul_fit ha hb
 refine CallL.tree hdraw fp182 (ctr_ok libT_ok qnone_ok) (PC3_eq a b) ?_
 simp only[SS]
 omega
theorem c4_ok (a b:Int) (ha:fitsB a=true) (hb:b≠0):ClC 183 a b (a.tdiv b):=by
 have:=fitsB_iff.1 (tdiv_fit (b:=b) ha)
 refine CallL.tree hdraw fp183 (ctr_ok libT_ok qnone_ok) (PC4_eq a b) ?_
 simp only[SS]
 exact⟨hb,by omega⟩
theorem c5_ok (a b:Int) (ha:fitsB a=true) (hb:b≠0):ClC 184 a b (a.tmod b):=by
 refine CallL.tree hdraw fp184 (ctr_ok libT_ok qnone_ok) (PC5_eq a b) ?_
 simp only[SS]
 exact hb
def clQ:QT:=fun d xs ob=>match d,xs,ob with
 | .func (.func f) [] [.ptr 0 0,.ptr 1 0],[],[(0,.cells [.int .i64 a]),(1,.cells [.int .i64 b])] =>
  if f=180 then some (.ok (ClC 180 a b (a+b)) (.int .i64 (a+b)) (abO a b))
  else if f=181 then some (.ok (ClC 181 a b (a-b)) (.int .i64 (a-b)) (abO a b))
  else if f=182 then some (.ok (ClC 182 a b (a*b)) (.int .i64 (a*b)) (abO a b))
  else if f=183 then some (.ok (ClC 183 a b (a.tdiv b)) (.int .i64 (a.tdiv b)) (abO a b))
  else if f=184 then some (.ok (ClC 184 a b (a.tmod b)) (.int .i64 (a.tmod b)) (abO a b))
  else none
 | _,_,_=>none
theorem clQ_ok:clQ.OK:=by
 intro d xs ob rt h
 unfold clQ at h
 split at h
 ·split at h
  ·rename_i hf; subst hf; cases h; exact fun hp=>hp
  split at h
  ·rename_i hf; subst hf; cases h; exact fun hp=>hp
  split at h
  ·rename_i hf; subst hf; cases h; exact fun hp=>hp
  split at h
  ·rename_i hf; subst hf; cases h; exact fun hp=>hp
  split at h
  ·rename_i hf; subst hf; cases h; exact fun hp=>hp
  ·cases h
 ·cases h
def fitP:PT:=fun f xs=>match xs with
 | [.int .i64 n]=>if f=143 then some (.ok True (.bool (fitsB n)) []) else none
 | [.str s]=>if f=144 then some (.ok True (.int .i64 (if s=[45] then 1 else 0)) []) else none
 | _=>none
theorem fitP_ok:fitP.OK:=by
 intro f xs rt h
 unfold fitP at h
 split at h
 ·split at h
  ·rename_i hf; subst hf; cases h; exact fun _=>fit_ok _
  ·cases h
 ·split at h
  ·rename_i hf; subst hf; cases h; exact fun _=>sgn_ok _
  ·cases h
 ·cases h
theorem PCalc_eq (s:LU) (a b:Int):goT Tryz.prog (ctr fitP clQ) 0 (finF true 0 rs145) 2000 [Fr.sc sc145] { tm:=envOf 0 [dS s,dI a,dI b],ob:=[] }=(brT (decide (s=[(43:UInt8)])) (brT (decide (b=(0:Int))) (brT (decide (s=[(47:UInt8)])) (Rt (D.tuple [dI (0:Int),dB false]) []) (brT (decide (s=[(92:UInt8)])) (Rt (D.tuple [dI (0:Int),dB false]) []) (Ow (ClC 180 a b (a+b)) (Ow True (brT (!fitsB (a+b)) (Rt (D.tuple [dI (0:Int),dB false]) []) (Rt (D.tuple [dI (a+b),dB true]) [])))))) (Ow (ClC 180 a b (a+b)) (Ow True (brT (!fitsB (a+b)) (Rt (D.tuple [dI (0:Int),dB false]) []) (Rt (D.tuple [dI (a+b),dB true]) []))))) (brT (decide (s=[(45:UInt8)])) (brT (decide (b=(0:Int))) (brT (decide (s=[(47:UInt8)])) (Rt (D.tuple [dI (0:Int),dB false]) []) (brT (decide (s=[(92:UInt8)])) (Rt (D.tuple [dI (0:Int),dB false]) []) (Ow (ClC 181 a b (a-b)) (Ow True (brT (!fitsB (a-b)) (Rt (D.tuple [dI (0:Int),dB false]) []) (Rt (D.tuple [dI (a-b),dB true]) [])))))) (Ow (ClC 181 a b (a-b)) (Ow True (brT (!fitsB (a-b)) (Rt (D.tuple [dI (0:Int),dB false]) []) (Rt (D.tuple [dI (a-b),dB true]) []))))) (brT (decide (s=[(42:UInt8)])) (brT (decide (b=(0:Int))) (brT (decide (s=[(47:UInt8)])) (Rt (D.tuple [dI (0:Int),dB false]) []) (brT (decide (s=[(92:UInt8)])) (Rt (D.tuple [dI (0:Int),dB false]) []) (Ow (ClC 182 a b (a*b)) (Ow True (brT (!fitsB (a*b)) (Rt (D.tuple [dI (0:Int),dB false]) []) (Rt (D.tuple [dI (a*b),dB true]) [])))))) (Ow (ClC 182 a b (a*b)) (Ow True (brT (!fitsB (a*b)) (Rt (D.tuple [dI (0:Int),dB false]) []) (Rt (D.tuple [dI (a*b),dB true]) []))))) (brT (decide (s=[(47:UInt8)])) (brT (decide (b=(0:Int))) (brT (decide (s=[(47:UInt8)])) (Rt (D.tuple [dI (0:Int),dB false]) []) (brT (decide (s=[(92:UInt8)])) (Rt (D.tuple [dI (0:Int),dB false]) []) (Ow (ClC 183 a b (Int.tdiv a b)) (Ow True (brT (!fitsB (Int.tdiv a b)) (Rt (D.tuple [dI (0:Int),dB false]) []) (Rt (D.tuple [dI (Int.tdiv a b),dB true]) [])))))) (Ow (ClC 183 a b (Int.tdiv a b)) (Ow True (brT (!fitsB (Int.tdiv a b)) (Rt (D.tuple [dI (0:Int),dB false]) []) (Rt (D.tuple [dI (Int.tdiv a b),dB true]) []))))) (brT (decide (s=[(92:UInt8)])) (brT (decide (b=(0:Int))) (brT (decide (s=[(47:UInt8)])) (Rt (D.tuple [dI (0:Int),dB false]) []) (brT (decide (s=[(92:UInt8)])) (Rt (D.tuple [dI (0:Int),dB false]) []) (Ow (ClC 184 a b (Int.tmod a b)) (Ow True (brT (!fitsB (Int.tmod a b)) (Rt (D.tuple [dI (0:Int),dB false]) []) (Rt (D.tuple [dI (Int.tmod a b),dB true]) [])))))) (Ow (ClC 184 a b (Int.tmod a b)) (Ow True (brT (!fitsB (Int.tmod a b)) (Rt (D.tuple [dI (0:Int),dB false]) []) (Rt (D.tuple [dI (Int.tmod a b),dB true]) []))))) (Rt (D.tuple [dI (0:Int),dB false]) []))))):Tr):=by kernel_rfl
theorem leafC (v:Int):(fitsB v=false->D.tuple [.int .i64 0,.bool false]=resT (fitO (some v)))/\(fitsB v=true->D.tuple [.int .i64 v,.bool true]=resT (fitO (some v))) :=
 ⟨fun h=>by simp[fitO,resT,h],fun h=>by simp[fitO,resT,h]⟩
theorem calc_ok (s:LU) (a b:Int) (ha:fitsB a=true) (hb:fitsB b=true):FK 145 [.str s,.int .i64 a,.int .i64 b] (resT (fitO (calc0 s a b))):=by
 refine FnOK.tree hdraw fp145 (ctr_ok fitP_ok clQ_ok) (PCalc_eq s a b) ?_
 simp only[SS]
 refine⟨fun h=> ?_,fun h=>⟨fun h2=> ?_,fun h2=>⟨fun h3=> ?_,fun h3=>⟨fun h4=> ?_,fun h4=>⟨fun h5=> ?_,fun h5=> ?_⟩⟩⟩⟩⟩
 ·subst h
  have e:calc0 [43] a b=some (a+b):=rfl
  rw[e]
  exact⟨fun _=>⟨fun h=>absurd h (by decide),fun _=>⟨fun h=>absurd h (by decide),fun _=>⟨c1_ok a b ha hb,leafC _⟩⟩⟩,fun _=>⟨c1_ok a b ha hb,leafC _⟩⟩
 ·subst h2
  have e:calc0 [45] a b=some (a-b):=rfl
  rw[e]
  exact⟨fun _=>⟨fun h=>absurd h (by decide),fun _=>⟨fun h=>absurd h (by decide),fun _=>⟨c2_ok a b ha hb,leafC _⟩⟩⟩,fun _=>⟨c2_ok a b ha hb,leafC _⟩⟩
 ·subst h3
  have e:calc0 [42] a b=some (a*b):=rfl
  rw[e]
  exact⟨fun _=>⟨fun h=>absurd h (by decide),fun _=>⟨fun h=>absurd h (by decide),fun _=>⟨c3_ok a b ha hb,leafC _⟩⟩⟩,fun _=>⟨c3_ok a b ha hb,leafC _⟩⟩
 ·subst h4
  refine⟨fun h=> ?_,fun h=> ?_⟩
  ·subst h
   exact⟨fun _=>rfl,fun h=>absurd rfl h⟩
  ·have e:calc0 [47] a b=some (a.tdiv b):=by simp[calc0,h]
   rw[e]
   exact⟨c4_ok a b ha h,leafC _⟩
 ·subst h5
  refine⟨fun h=> ?_,fun h=> ?_⟩
  ·subst h
   exact⟨fun h=>absurd h (by decide),fun _=>⟨fun _=>rfl,fun h=>absurd rfl h⟩⟩
  ·have e:calc0 [92] a b=some (a.tmod b):=by simp[calc0,h]
   rw[e]
   exact⟨c5_ok a b ha h,leafC _⟩
 ·simp[calc0,h,h2,h3,h4,h5,fitO,resT]
theorem PBig_eq (n:Int):goT Tryz.prog (ctr fitP) 0 (finF false 0 rs142) 2000 [Fr.sc sc142] { tm:=envOf 0 ([]++[dI n]++[]),ob:=[] }=(Ow True (Rt (D.bool !fitsB n) []):Tr):=by kernel_rfl
theorem big_ok (n:Int):CF 142 [.int .i64 n] [] fun r ob=>r= .bool (!fitsB n)/\ob=[]:=by
 refine CallL.tree hdraw fp142 (ctr_ok fitP_ok qnone_ok) (PBig_eq n) ?_
 simp[ok_ret,ok_owe]
def asmP (r:D):PT:=fun f xs=>some (.ok (FK f xs r) r [])
theorem asmP_ok (r:D):(asmP r).OK:=by intro f xs rt h; cases h; exact fun hp=>hp
def bigQ:QT:=fun d xs ob=>match d,xs,ob with
 | .func (.func f) [] [],[.int .i64 n],[]=>if f=142 then some (.ok True (.bool (!fitsB n)) []) else none
 | _,_,_=>none
theorem bigQ_ok:bigQ.OK:=by
 intro d xs ob rt h
 unfold bigQ at h
 split at h
 ·split at h
  ·rename_i hf; subst hf; cases h; exact fun _=>big_ok _
  ·cases h
 ·cases h
def bigI:List Int->Int->Int
 | [],_=> -1
 | a::r,i=>if fitsB a=true then bigI r (i+1) else i
theorem bigI_iff: ∀ (l:List Int) (i:Int),0<=i->(0<=bigI l i ↔ l.all fitsB=false)
 | [],i,_=>by simp[bigI]
 | a::r,i,h=>by
  have ih:=bigI_iff r (i+1) (by omega)
  by_cases hf:fitsB a=true
  ·simp only[bigI,hf,if_true,List.all_cons,Bool.true_and]; exact ih
  ·simp[bigI,hf,h]
theorem bigI_ge (l:List Int) (i:Int) (h:0<=i):(decide (0<=bigI l i))= !(l.all fitsB):=by
 have:=bigI_iff l i h
 cases hq:l.all fitsB with
 | true=>simp[this,hq]
 | false=>simp[this,hq]
def eOne (c:List D):Nat->Int->List D:=fun _ _=>c
theorem drop_cons {α:Type} {l:List α} {i:Nat} (h:i<l.length):l.drop i=l[i]::l.drop (i+1):=List.drop_eq_getElem_cons h
theorem intC_get {k:IntKind} {l:List Int} {i:Nat} (h:i<l.length):(intC k l)[i]? = some [.int k l[i]]:=by simp[intC,h]
theorem intC_len (k:IntKind) (l:List Int):(intC k l).length=l.length:=by simp[intC]
theorem PIxV_eq (es:LD):goT Tryz.prog (ctr libT) 1 (finF false 1 rs179) 2000 [Fr.sc sc179] { tm:=envOf 0 ([]++[dV 0,dF 142 [] []]++[]),ob:=[(0,oR false 1 3 es)] }=(Jm (cut sc179 0) { tm:=[(0,dV 0),(1,dF 142 [] []),(7,dI (↑(List.length es):Int)),(8,dI (0:Int))],ob:=[(0,oR false 1 3 es)] }:Tr):=by kernel_rfl
def hdIxV (es:LD) (n i:Int):St:=⟨[(0,.vec 0),(1,.func (.func 142) [] []),(7,.int .i64 n),(8,.int .i64 i)],[(0,.arr false 1 3 es)]⟩
theorem PIxV2_eq (es:LD) (n:Int) (i:Nat) (c:Int):goT Tryz.prog (ctr libT bigQ (eOne [dI c])) 1 (finF false 1 rs179) 2000 (cut sc179 0) (hdIxV es n (↑i:Int))=(brT (decide ((↑i:Int)<n)) (Ow ((0:Int)<=(↑i:Int)/\(↑i:Int)<(↑(List.length es):Int)) (Ow (es[Int.toNat (↑i:Int)]? = some [dI c]) (Ow True (brT (!fitsB c) (Rt (dI (↑i:Int)) [(0,oR false 1 3 es)]) (Ow ((-9223372036854775808:Int)<=(↑i:Int)+(1:Int)/\(↑i:Int)+(1:Int)<=(9223372036854775807:Int)) (Jm (cut sc179 0) { tm:=[(0,dV 0),(1,dF 142 [] []),(7,dI n),(8,dI ((↑i:Int)+(1:Int)))],ob:=[(0,oR false 1 3 es)] })))))) (Rt (dI (-1:Int)) [(0,oR false 1 3 es)]):Tr):=by kernel_rfl
theorem ixV_at (l:List Int) (hl:l.length<=4611686018427387904): ∀ (m i:Nat),l.length-i=m->i<=l.length →
  At Tryz.prog 1 (cut sc179 0) (hdIxV (intC .i64 l) l.length i) (FinQ false 1 rs179 fun r ob=>r= .int .i64 (bigI (l.drop i) i)/\ob=[(0,.arr false 1 3 (intC .i64 l))]):=by
 intro m
 induction m with
 | zero =>
  intro i hm hi
  refine At.tree (ctr_ok libT_ok bigQ_ok) (PIxV2_eq (intC .i64 l) l.length i 0) ?_
  rw[List.drop_eq_nil_of_le (by omega)]
  simp only[SS]
  exact⟨fun h=>by omega,fun _=>rfl⟩
 | succ m ih =>
  intro i hm hi
  have h1:i<l.length:=by omega
  refine At.tree (ctr_ok libT_ok bigQ_ok) (PIxV2_eq (intC .i64 l) l.length i l[i]) ?_
  rw[drop_cons h1]
  simp only[SS,bigI,intC_len]
  refine⟨fun _=>⟨by omega,intC_get h1,fun h=>by simp[h],fun h=>⟨by omega, ?_⟩⟩,fun h=>by omega⟩
  rw[if_pos h]; exact ih (i+1) (by omega) (by omega)
theorem ixV_ok (l:List Int) (hl:l.length<=4611686018427387904):CF 179 [.vec 0,.func (.func 142) [] []] [(0,.arr false 1 3 (intC .i64 l))] fun r ob=>r= .int .i64 (bigI l 0)/\ob=[(0,.arr false 1 3 (intC .i64 l))]:=by
 refine CallL.tree hdraw fp179 (ctr_ok libT_ok qnone_ok) (PIxV_eq _) ?_
 simp only[SS,intC_len]
 exact ixV_at l hl _ 0 rfl (Nat.zero_le _)
def asmO (r:D) (ob':Obs):QT:=fun d xs ob=>some (.ok (CallL Tryz.prog d xs ob fun r0 ob0=>r0=r/\ob0=ob') r ob')
theorem asmO_ok (r:D) (ob':Obs):(asmO r ob').OK:=by intro d xs ob rt h; cases h; exact fun hp=>hp
theorem PCtV_eq (es:LD) (r:Int):goT Tryz.prog (ctr libT (asmO (dI r) [(0,oR false 1 3 es)])) 1 (finF false 1 rs141) 2000 [Fr.sc sc141] { tm:=envOf 0 ([]++[dV 0,dF 142 [] []]++[]),ob:=[(0,oR false 1 3 es)] }=(Ow (CF 179 [dV 0,dF 142 [] []] [(0,oR false 1 3 es)] fun r0 ob0=>r0=dI r/\ob0=[(0,oR false 1 3 es)]) (Rt (dB (decide ((0:Int)<=r))) [(0,oR false 1 3 es)]):Tr):=by kernel_rfl
theorem ctV_ok (l:List Int) (hl:l.length<=4611686018427387904):CF 141 [.vec 0,.func (.func 142) [] []] [(0,.arr false 1 3 (intC .i64 l))] fun r ob=>r= .bool (!l.all fitsB)/\ob=[(0,.arr false 1 3 (intC .i64 l))]:=by
 refine CallL.tree hdraw fp141 (ctr_ok libT_ok (asmO_ok _ _)) (PCtV_eq (intC .i64 l) (bigI l 0)) ?_
 simp only[SS]
 exact⟨ixV_ok l hl,bigI_ge l 0 (by decide)⟩
def eXY (x y:Int):Nat->Int->List D:=fun _ n=>if n=0 then [.int .i64 x] else [.int .i64 y]
theorem PCalV_eq (s:LU) (b:Bool) (o:Option Int) (es:LD) (x y:Int):goT Tryz.prog (ctr (PT.or fitP (asmP (resT o))) (asmO (dB b) [(0,oR false 1 3 es)]) (eXY x y)) 1 (finF false 1 rs119) 2000 [Fr.sc sc119] { tm:=envOf 0 ([]++[dS s,dV 0]++[]),ob:=[(0,oR false 1 3 es)] }=(Ow (CF 141 [dV 0,dF 142 [] []] [(0,oR false 1 3 es)] fun r0 ob0=>r0=dB b/\ob0=[(0,oR false 1 3 es)]) (brT (!b) (brT (decide ((↑(List.length es):Int)=(1:Int))) (Ow ((0:Int)<=(0:Int)/\(0:Int)<(↑(List.length es):Int)) (Ow (es[0]? = some [dI x]) (Ow ((-9223372036854775808:Int)<=(0:Int)-x/\(0:Int)-x<=(9223372036854775807:Int)) (Ow True (Ow (((-9223372036854775808:Int)<=((0:Int)-x)*if s=[(45:UInt8)] then (1:Int) else (0:Int))/\(((0:Int)-x)*if s=[(45:UInt8)] then (1:Int) else (0:Int))<=(9223372036854775807:Int)) (Rt (D.tuple [dI (((0:Int)-x)*if s=[(45:UInt8)] then (1:Int) else (0:Int)),dB (decide (s=[(45:UInt8)]))]) [(0,oR false 1 3 es)])))))) (brT (decide ((↑(List.length es):Int)=(2:Int))) (Ow ((0:Int)<=(0:Int)/\(0:Int)<(↑(List.length es):Int)) (Ow (es[0]? = some [dI x]) (Ow ((0:Int)<=(1:Int)/\(1:Int)<(↑(List.length es):Int)) (Ow (es[1]? = some [dI y]) (Ow (FK 145 [dS s,dI x,dI y] (D.tuple [dI (Option.getD o (0:Int)),dB (Option.isSome o)])) (Rt (D.tuple [dI (Option.getD o (0:Int)),dB (Option.isSome o)]) [(0,oR false 1 3 es)])))))) (Rt (D.tuple [dI (0:Int),dB false]) [(0,oR false 1 3 es)]))) (Rt (D.tuple [dI (0:Int),dB false]) [(0,oR false 1 3 es)])):Tr):=by kernel_rfl
theorem calcR_big {s:LU} {l:List Int} (h:l.all fitsB=false):calcR s l=none:=by
 unfold calcR
 rw[if_neg (by simp[h])]
theorem calV_ok (s:LU) (l:List Int) (hl:l.length<=4611686018427387904):CF 119 [.str s,.vec 0] [(0,.arr false 1 3 (intC .i64 l))] fun r ob=>r=resT (calcR s l)/\ob=[(0,.arr false 1 3 (intC .i64 l))]:=by
 refine CallL.tree hdraw fp119 (ctr_ok (PT.or_ok fitP_ok (asmP_ok _)) (asmO_ok _ _)) (PCalV_eq s (!l.all fitsB) (fitO (calc0 s (l.getD 0 0) (l.getD 1 0))) (intC .i64 l) (l.getD 0 0) (l.getD 1 0)) ?_
 simp only[SS,intC_len]
 refine⟨ctV_ok l hl,fun hb=>⟨fun h1=> ?_,fun h1=>⟨fun h2=> ?_,fun h2=> ?_⟩⟩,fun hb=>by rw[calcR_big hb]; rfl⟩
 ·match l,h1,hb with
  | [a],_,hb =>
   have ha:=fitsB_iff.1 (show fitsB a=true by simpa using hb)
   refine⟨by simp,rfl,by simp only[List.getD_cons_zero]; omega,by simp only[List.getD_cons_zero]; split <;> omega, ?_⟩
   simp only[calcR,hb,if_true,List.getD_cons_zero]
   by_cases hs:s=[45]
   ·simp[hs,resT]
   ·simp[hs,resT]
 ·match l,h2,hb with
  | [a,b],_,hb =>
   have hab:fitsB a=true/\fitsB b=true:=by simpa using hb
   refine⟨by simp,rfl,by simp,rfl, ?_, ?_⟩
   ·exact calc_ok s a b hab.1 hab.2
   ·simp only[calcR,hb,if_true]; rfl
 ·match l,h1,h2,hb with
  | [],_,_,_=>rfl
  | [a],h,_,_=>exact absurd rfl h
  | [a,b],_,h,_=>exact absurd rfl h
  | _::_::_::_,_,_,hb=>simp only[calcR,hb,if_true]; rfl
end Go.Proofs.YtobgkdlghljdlaaGreatDoor
/- Small comparisons. -/
namespace Go.Proofs.YtobgkdlghljdlaaGreatDoor
open Go.Sx
def asmQ (r:D):QT:=fun d xs ob=>match ob with
 | []=>some (.ok (CallL Tryz.prog d xs [] fun r0 ob0=>r0=r/\ob0=[]) r [])
 | _=>none
theorem asmQ_ok (r:D):(asmQ r).OK:=by
 intro d xs ob rt h
 unfold asmQ at h
 split at h
 ·cases h; exact fun hp=>hp
 ·cases h
theorem PNan_eq (n:Int):goT Tryz.prog (ctr libT) 0 (finF true 0 rs130) 2000 [Fr.sc sc130] { tm:=envOf 0 [dI n],ob:=[] }=(Rt (D.bool !decide (n=n)) []:Tr):=by kernel_rfl
theorem nan_ok (n:Int):FK 130 [.int .i64 n] (.bool false):=by
 refine FnOK.tree hdraw fp130 (ctr_ok libT_ok qnone_ok) (PNan_eq n) ?_
 simp[ok_ret]
def nanP:PT:=fun f xs=>match xs with
 | [.int .i64 n]=>if f=130 then some (.ok True (.bool false) []) else none
 | _=>none
theorem nanP_ok:nanP.OK:=by
 intro f xs rt h
 unfold nanP at h
 split at h
 ·split at h
  ·rename_i hf; subst hf; cases h; exact fun _=>nan_ok _
  ·cases h
 ·cases h
theorem PCmp_eq (a b:Int):goT Tryz.prog (ctr nanP) 0 (finF true 0 rs93) 2000 [Fr.sc sc93] { tm:=envOf 0 [dI a,dI b],ob:=[] }=(Ow True (Ow True (brT (decide (a<b)) (Rt (dI (-1:Int)) []) (brT (decide (b<a)) (Rt (dI (1:Int)) []) (Rt (dI (0:Int)) [])))):Tr):=by kernel_rfl
theorem ncmp_ok (a b:Int):FK 93 [.int .i64 a,.int .i64 b] (.int .i64 (ncmp a b)):=by
 refine FnOK.tree hdraw fp93 (ctr_ok nanP_ok qnone_ok) (PCmp_eq a b) ?_
 simp only[SS]
 refine⟨fun h=>by simp[ncmp,h],fun h=>⟨fun h2=> ?_,fun h2=> ?_⟩⟩
 ·simp[ncmp,h,h2]
 ·simp[ncmp,h,h2]
theorem PIdx_eq (es:LD) (k:Int):goT Tryz.prog (ctr libT) 0 (finF true 0 rs131) 2000 [Fr.sc sc131] { tm:=envOf 0 [dL es [],dU k],ob:=[] }=(Jm (cut sc131 0) { tm:=[(0,dL es []),(1,dU k),(7,dI (↑(List.length es):Int)),(8,dI (0:Int))],ob:=[] }:Tr):=by kernel_rfl
def hdIx (es:LD) (k n i:Int):St:=⟨[(0,.slice es []),(1,.int .u8 k),(7,.int .i64 n),(8,.int .i64 i)],[]⟩
theorem PIdx2_eq (es:LD) (k n i c:Int):goT Tryz.prog (ctr libT qnone (eOne [dU c])) 0 (finF true 0 rs131) 2000 (cut sc131 0) (hdIx es k n i)=(brT (decide (i<n)) (Ow ((0:Int)<=i/\es[Int.toNat i]? = some [dU c]) (brT (decide (k=c)) (Rt (dI i) []) (Ow ((-9223372036854775808:Int)<=i+(1:Int)/\i+(1:Int)<=(9223372036854775807:Int)) (Jm (cut sc131 0) { tm:=[(0,dL es []),(1,dU k),(7,dI n),(8,dI (i+(1:Int)))],ob:=[] })))) (Rt (dI (-1:Int)) []):Tr):=by kernel_rfl
def ixF (k:Int):List Int->Int->Int
 | [],_=> -1
 | a::r,i=>if k=a then i else ixF k r (i+1)
theorem ix_at (l:List Int) (k:Int) (hl:l.length<=4611686018427387904): ∀ (m i:Nat),l.length-i=m->i<=l.length →
  At Tryz.prog 0 (cut sc131 0) (hdIx (intC .u8 l) k l.length i) (FinQ true 0 rs131 fun r _=>r= .int .i64 (ixF k (l.drop i) i)):=by
 intro m
 induction m with
 | zero =>
  intro i hm hi
  refine At.tree (ctr_ok libT_ok qnone_ok) (PIdx2_eq (intC .u8 l) k l.length i 0) ?_
  rw[List.drop_eq_nil_of_le (by omega)]
  simp only[SS]
  exact⟨fun h=>by omega,fun _=>rfl⟩
 | succ m ih =>
  intro i hm hi
  have h1:i<l.length:=by omega
  refine At.tree (ctr_ok libT_ok qnone_ok) (PIdx2_eq (intC .u8 l) k l.length i l[i]) ?_
  rw[drop_cons h1]
  simp only[SS,ixF]
  refine⟨fun _=>⟨⟨by omega,intC_get h1⟩,fun h=>by rw[if_pos h],fun h=>⟨by omega, ?_⟩⟩,fun h=>by omega⟩
  rw[if_neg h]; exact ih (i+1) (by omega) (by omega)
theorem idx_ok (k:Int):FK 131 [.slice [[.int .u8 1],[.int .u8 2],[.int .u8 4],[.int .u8 3],[.int .u8 5],[.int .u8 6]] [],.int .u8 k] (.int .i64 (idxI k)):=by
 have h:=ix_at [1,2,4,3,5,6] k (by decide) _ 0 rfl (Nat.zero_le _)
 exact FnOK.tree hdraw fp131 (ctr_ok libT_ok qnone_ok) (PIdx_eq _ k) h
def idxP:PT:=fun f xs=>match xs with
 | [.slice [[.int .u8 1],[.int .u8 2],[.int .u8 4],[.int .u8 3],[.int .u8 5],[.int .u8 6]] [],.int .u8 k]=>if f=131 then some (.ok True (.int .i64 (idxI k)) []) else none
 | _=>none
theorem idxP_ok:idxP.OK:=by
 intro f xs rt h
 unfold idxP at h
 split at h
 ·split at h
  ·rename_i hf; subst hf; cases h; exact fun _=>idx_ok _
  ·cases h
 ·cases h
theorem PRank_eq (k:Int):goT Tryz.prog (ctr idxP) 0 (finF true 0 rs94) 2000 [Fr.sc sc94] { tm:=envOf 0 [dU k],ob:=[] }=(Ow True (brT (decide ((0:Int)<=idxI k)) (Rt (dI (idxI k)) []) (Ow ((-9223372036854775808:Int)<=k/\k<=(9223372036854775807:Int)) (Ow ((-9223372036854775808:Int)<=(↑(6:Nat):Int)+k/\(↑(6:Nat):Int)+k<=(9223372036854775807:Int)) (Rt (dI ((↑(6:Nat):Int)+k)) [])))):Tr):=by kernel_rfl
theorem rank_ok (k:Int) (hk:0<=k/\k<=255):FK 94 [.int .u8 k] (.int .i64 (rkI k)):=by
 refine FnOK.tree hdraw fp94 (ctr_ok idxP_ok qnone_ok) (PRank_eq k) ?_
 simp only[SS]
 unfold idxI rkI
 refine⟨fun h=> ?_,fun h=>⟨by omega,⟨by omega, ?_⟩⟩⟩
 ·(repeat' split) <;> first | rfl | (split at h <;> omega) | (simp_all; done)
 ·(repeat' split) <;> first | omega | (simp_all; done)
theorem POr_eq (es:LD):goT Tryz.prog (ctr libT) 0 (finF true 0 rs95) 2000 [Fr.sc sc95] { tm:=envOf 0 [dL es []],ob:=[] }=(Jm (cut sc95 0) { tm:=[(3,dI (0:Int)),(6,dL es []),(7,dI (↑(List.length es):Int)),(8,dI (0:Int))],ob:=[] }:Tr):=by kernel_rfl
def hdOr (es:LD) (n i:Int):St:=⟨[(3,.int .i64 0),(6,.slice es []),(7,.int .i64 n),(8,.int .i64 i)],[]⟩
theorem POr2_eq (es:LD) (n i c:Int):goT Tryz.prog (ctr libT qnone (eOne [dI c])) 0 (finF true 0 rs95) 2000 (cut sc95 0) (hdOr es n i)=(brT (decide (i<n)) (Ow ((0:Int)<=i/\es[Int.toNat i]? = some [dI c]) (brT (!decide (c=(0:Int))) (Rt (dI c) []) (Ow ((-9223372036854775808:Int)<=i+(1:Int)/\i+(1:Int)<=(9223372036854775807:Int)) (Jm (cut sc95 0) { tm:=[(3,dI (0:Int)),(6,dL es []),(7,dI n),(8,dI (i+(1:Int)))],ob:=[] })))) (Rt (dI (0:Int)) []):Tr):=by kernel_rfl
theorem or_at (l:List Int) (hl:l.length<=4611686018427387904): ∀ (m i:Nat),l.length-i=m->i<=l.length →
  At Tryz.prog 0 (cut sc95 0) (hdOr (intC .i64 l) l.length i) (FinQ true 0 rs95 fun r _=>r= .int .i64 (fst0 (l.drop i))):=by
 intro m
 induction m with
 | zero =>
  intro i hm hi
  refine At.tree (ctr_ok libT_ok qnone_ok) (POr2_eq (intC .i64 l) l.length i 0) ?_
  rw[List.drop_eq_nil_of_le (by omega)]
  simp only[SS]
  exact⟨fun h=>by omega,fun _=>rfl⟩
 | succ m ih =>
  intro i hm hi
  have h1:i<l.length:=by omega
  refine At.tree (ctr_ok libT_ok qnone_ok) (POr2_eq (intC .i64 l) l.length i l[i]) ?_
  rw[drop_cons h1]
  simp only[SS,fst0]
  refine⟨fun _=>⟨⟨by omega,intC_get h1⟩,fun h=>by rw[if_pos h],fun h=>⟨by omega, ?_⟩⟩,fun h=>by omega⟩
  rw[if_neg (by simpa using h)]; exact ih (i+1) (by omega) (by omega)
theorem or_ok (a b c d:Int):FK 95 [.slice [[.int .i64 a],[.int .i64 b],[.int .i64 c],[.int .i64 d]] []] (.int .i64 (fst0 [a,b,c,d])):=by
 have h:=or_at [a,b,c,d] (by simp) _ 0 rfl (Nat.zero_le _)
 exact FnOK.tree hdraw fp95 (ctr_ok libT_ok qnone_ok) (POr_eq _) h
end Go.Proofs.YtobgkdlghljdlaaGreatDoor
/- term.Compare. -/
namespace Go.Proofs.YtobgkdlghljdlaaGreatDoor
open Go.Sx
theorem cellsL_get {l:List Tm} {i:Nat} (h:i<l.length):(Tm.cellsL l)[i]? = some l[i].cells:=by rw[cellsL_map]; simp[h]
theorem wf_get {B:Nat} {l:List Tm} (h:Tm.wfL B l) {t:Tm} (ht:t∈l):t.wf B:=wfL_all.1 h t ht
def eTwo (t0:Nat) (c d:List D):Nat->Int->List D:=fun t _=>if t=t0 then c else d
theorem PCF_eq (es fs e e':LD):goT Tryz.prog (ctr libT) 0 (finF false 0 rs97) 2000 [Fr.sc sc97] { tm:=envOf 0 ([]++[dL es e,dL fs e',dF 58 [] []]++[]),ob:=[] }=(Jm (cut sc97 0) { tm:=[(0,dL es e),(1,dL fs e'),(2,dF 58 [] []),(11,dL es e),(12,dI (↑(List.length es):Int)),(13,dI (0:Int))],ob:=[] }:Tr):=by kernel_rfl
def hdCF (es fs e e':LD) (n i:Int):St:=⟨[(0,.slice es e),(1,.slice fs e'),(2,.func (.func 58) [] []),(11,.slice es e),(12,.int .i64 n),(13,.int .i64 i)],[]⟩
theorem PCF2_eq (es fs e e':LD) (m i k n:Int) (s:LU) (a:LD) (k' n':Int) (s':LU) (a':LD) (c:Int):goT Tryz.prog (ctr libT (asmQ (dI c)) (eTwo 16 [dU k,dI n,dS s,dL a []] [dU k',dI n',dS s',dL a' []])) 0 (finF false 0 rs97) 2000 (cut sc97 0) (hdCF es fs e e' m i)=(brT (decide (i<m)) (Ow ((0:Int)<=i/\es[Int.toNat i]? = some [dU k,dI n,dS s,dL a []]) (brT (decide ((↑(List.length fs):Int)<=i)) (Rt (dI (1:Int)) []) (Ow ((0:Int)<=i/\fs[Int.toNat i]? = some [dU k',dI n',dS s',dL a' []]) (Ow (CF 58 [dA [dU k,dI n,dS s,dL a []],dA [dU k',dI n',dS s',dL a' []]] [] fun r0 ob0=>r0=dI c/\ob0=[]) (brT (!decide (c=(0:Int))) (Rt (dI c) []) (Ow ((-9223372036854775808:Int)<=i+(1:Int)/\i+(1:Int)<=(9223372036854775807:Int)) (Jm (cut sc97 0) { tm:=[(0,dL es e),(1,dL fs e'),(2,dF 58 [] []),(11,dL es e),(12,dI m),(13,dI (i+(1:Int)))],ob:=[] }))))))) (brT (decide ((↑(List.length es):Int)<(↑(List.length fs):Int))) (Rt (dI (-1:Int)) []) (Rt (dI (0:Int)) [])):Tr):=by kernel_rfl
def CmpC (x y:Tm):Prop:=CF 58 [.agg x.cells,.agg y.cells] [] fun r ob=>r= .int .i64 (x.cmp y)/\ob=[]
theorem cf_at (e e':LD) (l q:List Tm) (hl:l.length<=281474976710656) (hq:q.length<=281474976710656) (H: ∀ x∈l, ∀ y∈q,CmpC x y): ∀ (m i:Nat),l.length-i=m->i<=l.length->i<=q.length →
  At Tryz.prog 0 (cut sc97 0) (hdCF (Tm.cellsL l) (Tm.cellsL q) e e' l.length i) (FinQ false 0 rs97 fun r ob=>r= .int .i64 (Tm.cmpL (l.drop i) (q.drop i))/\ob=[]):=by
 intro m
 induction m with
 | zero =>
  intro i hm hi hiq
  refine At.tree (ctr_ok libT_ok (asmQ_ok (.int .i64 0))) (PCF2_eq (Tm.cellsL l) (Tm.cellsL q) e e' l.length i 0 0 [] [] 0 0 [] [] 0) ?_
  rw[List.drop_eq_nil_of_le (by omega)]
  simp only[SS,cellsL_length]
  refine⟨fun h=>by omega,fun _=>⟨fun h=> ?_,fun h=> ?_⟩⟩
  ·rw[drop_cons (show i<q.length by omega)]; rfl
  ·rw[List.drop_eq_nil_of_le (by omega)]; rfl
 | succ m ih =>
  intro i hm hi hiq
  have h1:i<l.length:=by omega
  have hx:=cellsL_get h1
  have hmx:l[i]∈l:=List.getElem_mem h1
  have hd:=drop_cons h1
  by_cases h2:i<q.length
  ·have hy:=cellsL_get h2
   have hC:=H _ hmx _ (List.getElem_mem h2)
   rw[hd,drop_cons h2]
   simp only[Tm.cmpL]
   unfold CmpC at hC
   generalize hc:Tm.cmp l[i] q[i]=c at hC ⊢
   generalize l[i]=x at hx hC
   generalize q[i]=y at hy hC
   obtain⟨k,n,s,a⟩:=x
   obtain⟨k',n',s',a'⟩:=y
   refine At.tree (ctr_ok libT_ok (asmQ_ok (.int .i64 c))) (PCF2_eq (Tm.cellsL l) (Tm.cellsL q) e e' l.length i k n s (Tm.cellsL a) k' n' s' (Tm.cellsL a') c) ?_
   simp only[SS,cellsL_length]
   refine⟨fun _=>⟨⟨by omega,hx⟩,fun h=>by omega,fun _=>⟨⟨by omega,hy⟩,hC,fun h=>by rw[if_pos h],fun h=>⟨by omega, ?_⟩⟩⟩,fun h=>by omega⟩
   rw[if_neg (by simpa using h)]
   exact ih (i+1) (by omega) (by omega) (by omega)
  ·rw[hd,List.drop_eq_nil_of_le (show q.length<=i by omega)]
   generalize l[i]=x at hx
   obtain⟨k,n,s,a⟩:=x
   refine At.tree (ctr_ok libT_ok (asmQ_ok (.int .i64 0))) (PCF2_eq (Tm.cellsL l) (Tm.cellsL q) e e' l.length i k n s (Tm.cellsL a) 0 0 [] [] 0) ?_
   simp only[SS,cellsL_length]
   exact⟨fun _=>⟨⟨by omega,hx⟩,fun _=>rfl,fun h=>by omega⟩,fun h=>by omega⟩
theorem cf_ok (e e':LD) (l q:List Tm) (hl:l.length<=281474976710656) (hq:q.length<=281474976710656) (H: ∀ x∈l, ∀ y∈q,CmpC x y):CF 97 [.slice (Tm.cellsL l) e,.slice (Tm.cellsL q) e',.func (.func 58) [] []] [] fun r ob=>r= .int .i64 (Tm.cmpL l q)/\ob=[]:=by
 refine CallL.tree hdraw fp97 (ctr_ok libT_ok qnone_ok) (PCF_eq (Tm.cellsL l) (Tm.cellsL q) e e') ?_
 simp only[SS,cellsL_length]
 exact cf_at e e' l q hl hq H _ 0 rfl (Nat.zero_le _) (Nat.zero_le _)
def cmpPT:PT:=fun f xs=>match xs with
 | [.int .u8 k]=>if f=94 then some (.ok (0<=k/\k<=255) (.int .i64 (rkI k)) []) else none
 | [.int .i64 a,.int .i64 b]=>if f=93 then some (.ok True (.int .i64 (ncmp a b)) []) else none
 | [.slice [[.int .i64 a],[.int .i64 b],[.int .i64 c],[.int .i64 d]] []]=>if f=95 then some (.ok True (.int .i64 (fst0 [a,b,c,d])) []) else none
 | xs=>libT f xs
theorem cmpPT_ok:cmpPT.OK:=by
 intro f xs rt h
 unfold cmpPT at h
 split at h
 ·split at h
  ·rename_i hf; subst hf; cases h; exact fun hk=>rank_ok _ hk
  ·cases h
 ·split at h
  ·rename_i hf; subst hf; cases h; exact fun _=>ncmp_ok _ _
  ·cases h
 ·split at h
  ·rename_i hf; subst hf; cases h; exact fun _=>or_ok _ _ _ _
  ·cases h
 ·exact libT_ok _ _ _ h
theorem PCo_eq (k n:Int) (s:LU) (a:LD) (k' n':Int) (s':LU) (a':LD) (c:Int) (e e':LD):goT Tryz.prog (ctr cmpPT (asmQ (dI c))) 0 (finF false 0 rs58) 2000 [Fr.sc sc58] { tm:=envOf 0 ([]++[dA [dU k,dI n,dS s,dL a e],dA [dU k',dI n',dS s',dL a' e']]++[]),ob:=[] }=(Ow ((0:Int)<=k/\k<=(255:Int)) (Ow ((0:Int)<=k'/\k'<=(255:Int)) (Ow True (brT (!decide (ncmp (rkI k) (rkI k')=(0:Int))) (Rt (dI (ncmp (rkI k) (rkI k'))) []) (Ow True (brT (!decide (ncmp n n'=(0:Int))) (brT (decide (k=(1:Int))) (Rt (dI (ncmp n n')) []) (Ow True (Ow True (Ow (CF 97 [dL a e,dL a' e',dF 58 [] []] [] fun r0 ob0=>r0=dI c/\ob0=[]) (Ow True (Ow True (Rt (dI (fst0 [ncmp (↑(List.length a):Int) (↑(List.length a'):Int),Lib.compareBytes s s',c,ncmp n n'])) []))))))) (Ow True (Ow True (Ow (CF 97 [dL a e,dL a' e',dF 58 [] []] [] fun r0 ob0=>r0=dI c/\ob0=[]) (Ow True (Ow True (Rt (dI (fst0 [ncmp (↑(List.length a):Int) (↑(List.length a'):Int),Lib.compareBytes s s',c,ncmp n n'])) []))))))))))):Tr):=by kernel_rfl
def cellsE:Tm->LD->List D
 | .mk k n s l,e=>[.int .u8 (k:Int),.int .i64 n,.str s,.slice (Tm.cellsL l) e]
theorem cellsE_nil (x:Tm):cellsE x []=x.cells:=by cases x; rfl
theorem compX_ok: ∀ (x y:Tm) (e e':LD),x.wf 281474976710656->y.wf 281474976710656->CF 58 [.agg (cellsE x e),.agg (cellsE y e')] [] fun r ob=>r= .int .i64 (x.cmp y)/\ob=[]
 | .mk k n s l,.mk k' n' s' l',e,e',hx,hy=>by
  simp only[Tm.wf] at hx hy
  obtain⟨hk,hn1,hn2,hs,hl,hw⟩:=hx
  obtain⟨hk',hn1',hn2',hs',hl',hw'⟩:=hy
  have hC:=cf_ok e e' l l' hl hl' fun x hx y hy=>by
   have:=compX_ok x y [] [] (wf_get hw hx) (wf_get hw' hy)
   rw[cellsE_nil,cellsE_nil] at this
   exact this
  refine CallL.tree hdraw fp58 (ctr_ok cmpPT_ok (asmQ_ok (.int .i64 (Tm.cmpL l l')))) (PCo_eq k n s (Tm.cellsL l) k' n' s' (Tm.cellsL l') (Tm.cmpL l l') e e') ?_
  simp only[SS,cellsL_length,Tm.cmp,fst0]
  have e1:((k:Int)=1)=(k=1):=propext (by omega)
  simp only[e1]
  refine⟨by omega,by omega,fun h=>by rw[if_pos h],fun h=>⟨fun h2=>⟨fun h3=> ?_,fun h3=>⟨hC, ?_⟩⟩,fun h2=>⟨hC, ?_⟩⟩⟩
  ·subst h3
   have h':ncmp (rkI 1) (rkI k')=0:=h
   simp[h',h2]
  ·simp[h,h2,h3]
  ·simp[h,h2]
termination_by x=>SizeOf.sizeOf x
decreasing_by
 have:=List.sizeOf_lt_of_mem hx
 simp only[Tm.mk.sizeOf_spec]
 omega
theorem compC_ok (x y:Tm) (hx:x.wf 281474976710656) (hy:y.wf 281474976710656):CmpC x y:=by
 have:=compX_ok x y [] [] hx hy
 rw[cellsE_nil,cellsE_nil] at this
 exact this
end Go.Proofs.YtobgkdlghljdlaaGreatDoor
/- Equality,sizes. -/
namespace Go.Proofs.YtobgkdlghljdlaaGreatDoor
open Go.Sx
theorem PSz_eq (k n:Int) (s:LU) (a:LD) (m c:Int):goT Tryz.prog (ctr (asmP (dI c))) 0 (finF true 0 rs34) 2000 [Fr.sc sc34] { tm:=envOf 0 [dA [dU k,dI n,dS s,dL a []],dI m],ob:=[] }=(Ow ((-9223372036854775808:Int)<=m-(1:Int)/\m-(1:Int)<=(9223372036854775807:Int)) (Ow (FK 33 [dL a [],dI (m-(1:Int))] (dI c)) (Ow ((-9223372036854775808:Int)<=(1:Int)+c/\(1:Int)+c<=(9223372036854775807:Int)) (Rt (dI ((1:Int)+c)) []))):Tr):=by kernel_rfl
theorem PSzs_eq (a:LD) (m:Int):goT Tryz.prog (ctr libT) 0 (finF true 0 rs33) 2000 [Fr.sc sc33] { tm:=envOf 0 [dL a [],dI m],ob:=[] }=(Jm (cut sc33 0) { tm:=[(0,dL a []),(1,dI m),(5,dI (0:Int)),(6,dI (0:Int))],ob:=[] }:Tr):=by kernel_rfl
def hdSz (a:LD) (m n i:Int):St:=⟨[(0,.slice a []),(1,.int .i64 m),(5,.int .i64 n),(6,.int .i64 i)],[]⟩
theorem PSzs2_eq (a:LD) (m n i kx nx:Int) (sx:LU) (ax:LD) (c:Int):goT Tryz.prog (ctr (asmP (dI c)) qnone (eOne [dU kx,dI nx,dS sx,dL ax []])) 0 (finF true 0 rs33) 2000 (cut sc33 0) (hdSz a m n i)=(brT (decide (i<(↑(List.length a):Int))) (brT (decide (n<=m)) (Ow ((0:Int)<=i/\a[Int.toNat i]? = some [dU kx,dI nx,dS sx,dL ax []]) (Ow ((-9223372036854775808:Int)<=m-n/\m-n<=(9223372036854775807:Int)) (Ow (FK 34 [dA [dU kx,dI nx,dS sx,dL ax []],dI (m-n)] (dI c)) (Ow ((-9223372036854775808:Int)<=n+c/\n+c<=(9223372036854775807:Int)) (Ow ((-9223372036854775808:Int)<=i+(1:Int)/\i+(1:Int)<=(9223372036854775807:Int)) (Jm (cut sc33 0) { tm:=[(0,dL a []),(1,dI m),(5,dI (n+c)),(6,dI (i+(1:Int)))],ob:=[] })))))) (Rt (dI n) [])) (Rt (dI n) []):Tr):=by kernel_rfl
theorem PEq_eq (k n:Int) (s:LU) (a:LD) (k' n':Int) (s':LU) (a':LD) (c:Int):goT Tryz.prog (ctr (asmP (dI c))) 0 (finF true 0 rs27) 2000 [Fr.sc sc27] { tm:=envOf 0 [dA [dU k,dI n,dS s,dL a []],dA [dU k',dI n',dS s',dL a' []]],ob:=[] }=(Ow (FK 58 [dA [dU k,dI n,dS s,dL a []],dA [dU k',dI n',dS s',dL a' []]] (dI c)) (Rt (dB (decide (c=(0:Int)))) []):Tr):=by kernel_rfl
def SzP (x:Tm):Prop:= ∀ m:Int,0<=m->m<=1000000->FK 34 [.agg x.cells,.int .i64 m] (.int .i64 (x.sz m))
theorem szs_at (l:List Tm) (hl:l.length<=281474976710656) (H: ∀ x∈l,SzP x) (M:Int) (hM: -1<=M/\M<=1000000): ∀ (m i:Nat) (n:Int),l.length-i=m->i<=l.length->0<=n->n<=M+1 →
  At Tryz.prog 0 (cut sc33 0) (hdSz (Tm.cellsL l) M n i) (FinQ true 0 rs33 fun r _=>r= .int .i64 (Tm.szL (l.drop i) M n)):=by
 intro m
 induction m with
 | zero =>
  intro i n hm hi hn hn2
  refine At.tree (ctr_ok (asmP_ok (.int .i64 0)) qnone_ok) (PSzs2_eq (Tm.cellsL l) M n i 0 0 [] [] 0) ?_
  rw[List.drop_eq_nil_of_le (show l.length<=i by omega)]
  simp only[SS,cellsL_length]
  exact⟨fun h=>by omega,fun _=>rfl⟩
 | succ m ih =>
  intro i n hm hi hn hn2
  have h1:i<l.length:=by omega
  have hx:=cellsL_get h1
  have hC:=H _ (List.getElem_mem h1)
  rw[drop_cons h1]
  simp only[Tm.szL]
  by_cases hnm:n<=M
  ·rw[if_pos hnm]
   have hC2:=hC (M-n) (by omega) (by omega)
   have hge:=sz_ge l[i] (M-n)
   have hle:=sz_le l[i] (M-n) (by omega)
   have hI:=ih (i+1) (n+Tm.sz l[i] (M-n)) (by omega) (by omega) (by omega) (by omega)
   generalize Tm.sz l[i] (M-n)=c at hC2 hI hge hle ⊢
   generalize l[i]=x at hx hC2
   obtain⟨kx,nx,sx,ax⟩:=x
   refine At.tree (ctr_ok (asmP_ok (.int .i64 c)) qnone_ok) (PSzs2_eq (Tm.cellsL l) M n i kx nx sx (Tm.cellsL ax) c) ?_
   simp only[SS,cellsL_length]
   exact⟨fun _=>⟨fun _=>⟨⟨by omega,hx⟩,by omega,hC2,by omega,by omega,hI⟩,fun h=>by omega⟩,fun h=>by omega⟩
  ·rw[if_neg hnm]
   refine At.tree (ctr_ok (asmP_ok (.int .i64 0)) qnone_ok) (PSzs2_eq (Tm.cellsL l) M n i 0 0 [] [] 0) ?_
   simp only[SS,cellsL_length]
   exact⟨fun _=>⟨fun h=>by omega,fun _=>trivial⟩,fun h=>by omega⟩
theorem szs_ok (l:List Tm) (hl:l.length<=281474976710656) (H: ∀ x∈l,SzP x) (M:Int) (hM: -1<=M/\M<=1000000):FK 33 [.slice (Tm.cellsL l) [],.int .i64 M] (.int .i64 (Tm.szL l M 0)) :=
 FnOK.tree hdraw fp33 (ctr_ok libT_ok qnone_ok) (PSzs_eq (Tm.cellsL l) M) (szs_at l hl H M hM _ 0 0 rfl (Nat.zero_le _) (by omega) (by omega))
theorem sz_ok: ∀ (x:Tm),x.wf 281474976710656->SzP x
 | .mk k n s l,hx=>by
  simp only[Tm.wf] at hx
  obtain⟨hk,hn1,hn2,hs,hl,hw⟩:=hx
  intro m h0 h1
  have hC:=szs_ok l hl (fun x hx=>sz_ok x (wf_get hw hx)) (m-1) (by omega)
  have hge:=szL_ge l (m-1) 0
  have hle:=szL_le l (m-1) 0 (by omega)
  refine FnOK.tree hdraw fp34 (ctr_ok (asmP_ok (.int .i64 (Tm.szL l (m-1) 0))) qnone_ok) (PSz_eq k n s (Tm.cellsL l) m (Tm.szL l (m-1) 0)) ?_
  simp only[SS]
  exact⟨by omega,hC,by omega,rfl⟩
termination_by x=>SizeOf.sizeOf x
decreasing_by
 have:=List.sizeOf_lt_of_mem hx
 simp only[Tm.mk.sizeOf_spec]
 omega
theorem pureC:pureF Tryz.prog 58=true:=by kernel_rfl
theorem cmp_ok (x y:Tm) (hx:x.wf 281474976710656) (hy:y.wf 281474976710656):FK 58 [.agg x.cells,.agg y.cells] (.int .i64 (x.cmp y)) :=
 FnOK.of_call pureC ((compC_ok x y hx hy).mono fun r ob ⟨h1,h2⟩=>by subst h1; subst h2; exact .inr ⟨rfl,rfl⟩)
theorem equal_ok (x y:Tm) (hx:x.wf 281474976710656) (hy:y.wf 281474976710656):FK 27 [.agg x.cells,.agg y.cells] (.bool (x.eqb y)):=by
 have hC:=cmp_ok x y hx hy
 rw[eqb_cmp]
 generalize x.cmp y=c at hC ⊢
 obtain⟨k,n,s,l⟩:=x
 obtain⟨k',n',s',l'⟩:=y
 refine FnOK.tree hdraw fp27 (ctr_ok (asmP_ok (.int .i64 c)) qnone_ok) (PEq_eq k n s (Tm.cellsL l) k' n' s' (Tm.cellsL l') c) ?_
 simp only[SS]
 exact hC
def sCtr (l:List (Nat × D)):Ctr:=⟨fun t f az=>match lk l t with | some r=>some (.ok (FK f az r) r []) | none=>none,fun _=>qnone,noE⟩
theorem sCtr_ok (l:List (Nat × D)):(sCtr l).OK Tryz.prog:=by
 refine⟨fun t f az rt h=> ?_,fun _=>qnone_ok⟩
 simp only[sCtr] at h
 split at h
 ·cases h; exact fun hp=>hp
 ·cases h
end Go.Proofs.YtobgkdlghljdlaaGreatDoor
