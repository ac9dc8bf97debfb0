/- arith.Calc. -/
import Derived.Test.YtfoklncmfoogcaaGreatDoorLibT
import Derived.Test.YtfoklncmfoogcaaGreatDoorSx8
set_option linter.unusedSectionVars false
set_option linter.unusedVariables false
set_option linter.unusedSimpArgs false
set_option linter.deprecated false
set_option maxRecDepth 100000
namespace Go.Proofs.YtfoklncmfoogcaaGreatDoor
open Go.Sx
noncomputable def PFit (n:Int):Tr:=brT (decide ((-2147483647:Int)<=n)) (Tr.ret (D.bool (decide (n<=(2147483647:Int)))) []) (Tr.ret (D.bool false) [])
theorem PFit_eq (n:Int):goT Tryz.prog (ctr libT) 0 (finF true 0 rs34) 2000 [Fr.sc sc34] { tm:=envOf 0 [D.int .i64 n],ob:=[] }=PFit n:=by kernel_rfl
theorem fit_ok (n:Int):FnOK Tryz.prog 34 [.int .i64 n] (.bool (fitsB n)):=by
 refine FnOK.tree hdraw fp34 (ctr_ok libT_ok qnone_ok) (PFit_eq n) ?_
 unfold PFit
 simp only[SS,fitsB]
 exact⟨fun h=>by simp[h],fun h=>by simp[h]⟩
noncomputable def PSign (s:List UInt8):Tr:=brT (decide (s=[(45:UInt8)])) (Tr.ret (D.int .i64 (1:Int)) []) (Tr.ret (D.int .i64 (0:Int)) [])
theorem PSign_eq (s:List UInt8):goT Tryz.prog (ctr libT) 0 (finF true 0 rs35) 2000 [Fr.sc sc35] { tm:=envOf 0 [D.str s],ob:=[] }=PSign s:=by kernel_rfl
theorem sgn_ok (s:List UInt8):FnOK Tryz.prog 35 [.str s] (.int .i64 (if s=[45] then 1 else 0)):=by
 refine FnOK.tree hdraw fp35 (ctr_ok libT_ok qnone_ok) (PSign_eq s) ?_
 unfold PSign
 simp only[SS]
 exact⟨fun h=>by rw[if_pos h],fun h=>by rw[if_neg h]⟩
abbrev abO (a b:Int):Obs:=[(0,.cells [.int .i64 a]),(1,.cells [.int .i64 b])]
noncomputable def PC1 (a b:Int):Tr:=Tr.owe ((-9223372036854775808:Int)<=a+b/\a+b<=(9223372036854775807:Int)) (Tr.ret (D.int .i64 (a+b)) [(0,Ob.cells [D.int .i64 a]),(1,Ob.cells [D.int .i64 b])])
theorem PC1_eq (a b:Int):goT Tryz.prog (ctr libT) 2 (finF false 2 rs55) 2000 [Fr.sc sc55] { tm:=envOf 0 ([]++[]++[D.ptr 0 0,D.ptr 1 0]),ob:=[(0,Ob.cells [D.int .i64 a]),(1,Ob.cells [D.int .i64 b])] }=PC1 a b:=by kernel_rfl
noncomputable def PC2 (a b:Int):Tr:=Tr.owe ((-9223372036854775808:Int)<=a-b/\a-b<=(9223372036854775807:Int)) (Tr.ret (D.int .i64 (a-b)) [(0,Ob.cells [D.int .i64 a]),(1,Ob.cells [D.int .i64 b])])
theorem PC2_eq (a b:Int):goT Tryz.prog (ctr libT) 2 (finF false 2 rs56) 2000 [Fr.sc sc56] { tm:=envOf 0 ([]++[]++[D.ptr 0 0,D.ptr 1 0]),ob:=[(0,Ob.cells [D.int .i64 a]),(1,Ob.cells [D.int .i64 b])] }=PC2 a b:=by kernel_rfl
noncomputable def PC3 (a b:Int):Tr:=Tr.owe ((-9223372036854775808:Int)<=a*b/\a*b<=(9223372036854775807:Int)) (Tr.ret (D.int .i64 (a*b)) [(0,Ob.cells [D.int .i64 a]),(1,Ob.cells [D.int .i64 b])])
theorem PC3_eq (a b:Int):goT Tryz.prog (ctr libT) 2 (finF false 2 rs57) 2000 [Fr.sc sc57] { tm:=envOf 0 ([]++[]++[D.ptr 0 0,D.ptr 1 0]),ob:=[(0,Ob.cells [D.int .i64 a]),(1,Ob.cells [D.int .i64 b])] }=PC3 a b:=by kernel_rfl
noncomputable def PC4 (a b:Int):Tr:=Tr.owe (b≠(0:Int)) (Tr.owe ((-9223372036854775808:Int)<=Int.tdiv a b/\Int.tdiv a b<=(9223372036854775807:Int)) (Tr.ret (D.int .i64 (Int.tdiv a b)) [(0,Ob.cells [D.int .i64 a]),(1,Ob.cells [D.int .i64 b])]))
theorem PC4_eq (a b:Int):goT Tryz.prog (ctr libT) 2 (finF false 2 rs58) 2000 [Fr.sc sc58] { tm:=envOf 0 ([]++[]++[D.ptr 0 0,D.ptr 1 0]),ob:=[(0,Ob.cells [D.int .i64 a]),(1,Ob.cells [D.int .i64 b])] }=PC4 a b:=by kernel_rfl
noncomputable def PC5 (a b:Int):Tr:=Tr.owe (b≠(0:Int)) (Tr.ret (D.int .i64 (Int.tmod a b)) [(0,Ob.cells [D.int .i64 a]),(1,Ob.cells [D.int .i64 b])])
theorem PC5_eq (a b:Int):goT Tryz.prog (ctr libT) 2 (finF false 2 rs59) 2000 [Fr.sc sc59] { tm:=envOf 0 ([]++[]++[D.ptr 0 0,D.ptr 1 0]),ob:=[(0,Ob.cells [D.int .i64 a]),(1,Ob.cells [D.int .i64 b])] }=PC5 a b:=by kernel_rfl
def ClC (f:FuncId) (a b r:Int):Prop:=CallL Tryz.prog (.func (.func f) [] [.ptr 0 0,.ptr 1 0]) [] (abO a b) fun r0 ob0=>r0= .int .i64 r/\ob0=abO a b
theorem c1_ok (a b:Int) (ha:fitsB a=true) (hb:fitsB b=true):ClC 55 a b (a+b):=by
 rw[fitsB_iff] at ha hb
 refine CallL.tree hdraw fp55 (ctr_ok libT_ok qnone_ok) (PC1_eq a b) ?_
 unfold PC1
 simp only[SS]
 omega
theorem c2_ok (a b:Int) (ha:fitsB a=true) (hb:fitsB b=true):ClC 56 a b (a-b):=by
 rw[fitsB_iff] at ha hb
 refine CallL.tree hdraw fp56 (ctr_ok libT_ok qnone_ok) (PC2_eq a b) ?_
 unfold PC2
 simp only[SS]
 omega
theorem c3_ok (a b:Int) (ha:fitsB a=true) (hb:fitsB b=true):ClC 57 a b (a*b):=by
 have:=mul_fit ha hb
 refine CallL.tree hdraw fp57 (ctr_ok libT_ok qnone_ok) (PC3_eq a b) ?_
 unfold PC3
 simp only[SS]
 omega
theorem c4_ok (a b:Int) (ha:fitsB a=true) (hb:b≠0):ClC 58 a b (a.tdiv b):=by
 have:=fitsB_iff.1 (tdiv_fit (b:=b) ha)
 refine CallL.tree hdraw fp58 (ctr_ok libT_ok qnone_ok) (PC4_eq a b) ?_
 unfold PC4
 simp only[SS]
 exact⟨hb,by omega⟩
theorem c5_ok (a b:Int) (ha:fitsB a=true) (hb:b≠0):ClC 59 a b (a.tmod b):=by
 refine CallL.tree hdraw fp59 (ctr_ok libT_ok qnone_ok) (PC5_eq a b) ?_
 unfold PC5
 simp only[SS]
 exact hb
def clQ:QT:=fun d xs ob=>match d,xs,ob with
 | .func (.func f) [] [.ptr 0 0,.ptr 1 0],[],[(0,.cells [.int .i64 a]),(1,.cells [.int .i64 b])] =>
  if f=55 then some (.ok (ClC 55 a b (a+b)) (.int .i64 (a+b)) (abO a b))
  else if f=56 then some (.ok (ClC 56 a b (a-b)) (.int .i64 (a-b)) (abO a b))
  else if f=57 then some (.ok (ClC 57 a b (a*b)) (.int .i64 (a*b)) (abO a b))
  else if f=58 then some (.ok (ClC 58 a b (a.tdiv b)) (.int .i64 (a.tdiv b)) (abO a b))
  else if f=59 then some (.ok (ClC 59 a b (a.tmod b)) (.int .i64 (a.tmod b)) (abO a b))
  else none
 | _,_,_=>none
theorem clQ_ok:clQ.OK:=by
 intro d xs ob rt h
 unfold clQ at h
 split at h
 ·split at h
  ·rename_i hf; subst hf; cases h; exact fun hp=>hp
  split at h
  ·rename_i hf; subst hf; cases h; exact fun hp=>hp
  split at h
  ·rename_i hf; subst hf; cases h; exact fun hp=>hp
  split at h
  ·rename_i hf; subst hf; cases h; exact fun hp=>hp
  split at h
  ·rename_i hf; subst hf; cases h; exact fun hp=>hp
  ·cases h
 ·cases h
def fitP:PT:=fun f xs=>match xs with
 | [.int .i64 n]=>if f=34 then some (.ok True (.bool (fitsB n)) []) else none
 | [.str s]=>if f=35 then some (.ok True (.int .i64 (if s=[45] then 1 else 0)) []) else none
 | _=>none
theorem fitP_ok:fitP.OK:=by
 intro f xs rt h
 unfold fitP at h
 split at h
 ·split at h
  ·rename_i hf; subst hf; cases h; exact fun _=>fit_ok _
  ·cases h
 ·split at h
  ·rename_i hf; subst hf; cases h; exact fun _=>sgn_ok _
  ·cases h
 ·cases h
noncomputable def PCalc (s:List UInt8) (a b:Int):Tr:=brT (decide (s=[(43:UInt8)])) (brT (decide (b=(0:Int))) (brT (decide (s=[(47:UInt8)])) (Tr.ret (D.tuple [D.int .i64 (0:Int),D.bool false]) []) (brT (decide (s=[(92:UInt8)])) (Tr.ret (D.tuple [D.int .i64 (0:Int),D.bool false]) []) (Tr.owe (ClC 55 a b (a+b)) (Tr.owe True (brT (!fitsB (a+b)) (Tr.ret (D.tuple [D.int .i64 (0:Int),D.bool false]) []) (Tr.ret (D.tuple [D.int .i64 (a+b),D.bool true]) [])))))) (Tr.owe (ClC 55 a b (a+b)) (Tr.owe True (brT (!fitsB (a+b)) (Tr.ret (D.tuple [D.int .i64 (0:Int),D.bool false]) []) (Tr.ret (D.tuple [D.int .i64 (a+b),D.bool true]) []))))) (brT (decide (s=[(45:UInt8)])) (brT (decide (b=(0:Int))) (brT (decide (s=[(47:UInt8)])) (Tr.ret (D.tuple [D.int .i64 (0:Int),D.bool false]) []) (brT (decide (s=[(92:UInt8)])) (Tr.ret (D.tuple [D.int .i64 (0:Int),D.bool false]) []) (Tr.owe (ClC 56 a b (a-b)) (Tr.owe True (brT (!fitsB (a-b)) (Tr.ret (D.tuple [D.int .i64 (0:Int),D.bool false]) []) (Tr.ret (D.tuple [D.int .i64 (a-b),D.bool true]) [])))))) (Tr.owe (ClC 56 a b (a-b)) (Tr.owe True (brT (!fitsB (a-b)) (Tr.ret (D.tuple [D.int .i64 (0:Int),D.bool false]) []) (Tr.ret (D.tuple [D.int .i64 (a-b),D.bool true]) []))))) (brT (decide (s=[(42:UInt8)])) (brT (decide (b=(0:Int))) (brT (decide (s=[(47:UInt8)])) (Tr.ret (D.tuple [D.int .i64 (0:Int),D.bool false]) []) (brT (decide (s=[(92:UInt8)])) (Tr.ret (D.tuple [D.int .i64 (0:Int),D.bool false]) []) (Tr.owe (ClC 57 a b (a*b)) (Tr.owe True (brT (!fitsB (a*b)) (Tr.ret (D.tuple [D.int .i64 (0:Int),D.bool false]) []) (Tr.ret (D.tuple [D.int .i64 (a*b),D.bool true]) [])))))) (Tr.owe (ClC 57 a b (a*b)) (Tr.owe True (brT (!fitsB (a*b)) (Tr.ret (D.tuple [D.int .i64 (0:Int),D.bool false]) []) (Tr.ret (D.tuple [D.int .i64 (a*b),D.bool true]) []))))) (brT (decide (s=[(47:UInt8)])) (brT (decide (b=(0:Int))) (brT (decide (s=[(47:UInt8)])) (Tr.ret (D.tuple [D.int .i64 (0:Int),D.bool false]) []) (brT (decide (s=[(92:UInt8)])) (Tr.ret (D.tuple [D.int .i64 (0:Int),D.bool false]) []) (Tr.owe (ClC 58 a b (Int.tdiv a b)) (Tr.owe True (brT (!fitsB (Int.tdiv a b)) (Tr.ret (D.tuple [D.int .i64 (0:Int),D.bool false]) []) (Tr.ret (D.tuple [D.int .i64 (Int.tdiv a b),D.bool true]) [])))))) (Tr.owe (ClC 58 a b (Int.tdiv a b)) (Tr.owe True (brT (!fitsB (Int.tdiv a b)) (Tr.ret (D.tuple [D.int .i64 (0:Int),D.bool false]) []) (Tr.ret (D.tuple [D.int .i64 (Int.tdiv a b),D.bool true]) []))))) (brT (decide (s=[(92:UInt8)])) (brT (decide (b=(0:Int))) (brT (decide (s=[(47:UInt8)])) (Tr.ret (D.tuple [D.int .i64 (0:Int),D.bool false]) []) (brT (decide (s=[(92:UInt8)])) (Tr.ret (D.tuple [D.int .i64 (0:Int),D.bool false]) []) (Tr.owe (ClC 59 a b (Int.tmod a b)) (Tr.owe True (brT (!fitsB (Int.tmod a b)) (Tr.ret (D.tuple [D.int .i64 (0:Int),D.bool false]) []) (Tr.ret (D.tuple [D.int .i64 (Int.tmod a b),D.bool true]) [])))))) (Tr.owe (ClC 59 a b (Int.tmod a b)) (Tr.owe True (brT (!fitsB (Int.tmod a b)) (Tr.ret (D.tuple [D.int .i64 (0:Int),D.bool false]) []) (Tr.ret (D.tuple [D.int .i64 (Int.tmod a b),D.bool true]) []))))) (Tr.ret (D.tuple [D.int .i64 (0:Int),D.bool false]) [])))))
theorem PCalc_eq (s:List UInt8) (a b:Int):goT Tryz.prog (ctr fitP clQ) 0 (finF true 0 rs36) 2000 [Fr.sc sc36] { tm:=envOf 0 [D.str s,D.int .i64 a,D.int .i64 b],ob:=[] }=PCalc s a b:=by kernel_rfl
theorem leafC (v:Int):(fitsB v=false->D.tuple [.int .i64 0,.bool false]=resT (fitO (some v)))/\(fitsB v=true->D.tuple [.int .i64 v,.bool true]=resT (fitO (some v))) :=
 ⟨fun h=>by simp[fitO,resT,h],fun h=>by simp[fitO,resT,h]⟩
theorem calc_ok (s:List UInt8) (a b:Int) (ha:fitsB a=true) (hb:fitsB b=true):FnOK Tryz.prog 36 [.str s,.int .i64 a,.int .i64 b] (resT (fitO (calc0 s a b))):=by
 refine FnOK.tree hdraw fp36 (ctr_ok fitP_ok clQ_ok) (PCalc_eq s a b) ?_
 unfold PCalc
 simp only[SS]
 refine⟨fun h=> ?_,fun h=>⟨fun h2=> ?_,fun h2=>⟨fun h3=> ?_,fun h3=>⟨fun h4=> ?_,fun h4=>⟨fun h5=> ?_,fun h5=> ?_⟩⟩⟩⟩⟩
 ·subst h
  have e:calc0 [43] a b=some (a+b):=rfl
  rw[e]
  exact⟨fun _=>⟨fun h=>absurd h (by decide),fun _=>⟨fun h=>absurd h (by decide),fun _=>⟨c1_ok a b ha hb,leafC _⟩⟩⟩,fun _=>⟨c1_ok a b ha hb,leafC _⟩⟩
 ·subst h2
  have e:calc0 [45] a b=some (a-b):=rfl
  rw[e]
  exact⟨fun _=>⟨fun h=>absurd h (by decide),fun _=>⟨fun h=>absurd h (by decide),fun _=>⟨c2_ok a b ha hb,leafC _⟩⟩⟩,fun _=>⟨c2_ok a b ha hb,leafC _⟩⟩
 ·subst h3
  have e:calc0 [42] a b=some (a*b):=rfl
  rw[e]
  exact⟨fun _=>⟨fun h=>absurd h (by decide),fun _=>⟨fun h=>absurd h (by decide),fun _=>⟨c3_ok a b ha hb,leafC _⟩⟩⟩,fun _=>⟨c3_ok a b ha hb,leafC _⟩⟩
 ·subst h4
  refine⟨fun h=> ?_,fun h=> ?_⟩
  ·subst h
   exact⟨fun _=>rfl,fun h=>absurd rfl h⟩
  ·have e:calc0 [47] a b=some (a.tdiv b):=by simp[calc0,h]
   rw[e]
   exact⟨c4_ok a b ha h,leafC _⟩
 ·subst h5
  refine⟨fun h=> ?_,fun h=> ?_⟩
  ·subst h
   exact⟨fun h=>absurd h (by decide),fun _=>⟨fun _=>rfl,fun h=>absurd rfl h⟩⟩
  ·have e:calc0 [92] a b=some (a.tmod b):=by simp[calc0,h]
   rw[e]
   exact⟨c5_ok a b ha h,leafC _⟩
 ·simp[calc0,h,h2,h3,h4,h5,fitO,resT]
noncomputable def PBig (n:Int):Tr:=Tr.owe True (Tr.ret (D.bool !fitsB n) [])
theorem PBig_eq (n:Int):goT Tryz.prog (ctr fitP) 0 (finF false 0 rs33) 2000 [Fr.sc sc33] { tm:=envOf 0 ([]++[D.int .i64 n]++[]),ob:=[] }=PBig n:=by kernel_rfl
theorem big_ok (n:Int):CallL Tryz.prog (.func (.func 33) [] []) [.int .i64 n] [] fun r ob=>r= .bool (!fitsB n)/\ob=[]:=by
 refine CallL.tree hdraw fp33 (ctr_ok fitP_ok qnone_ok) (PBig_eq n) ?_
 unfold PBig
 simp[ok_ret,ok_owe]
def asmP (r:D):PT:=fun f xs=>some (.ok (FnOK Tryz.prog f xs r) r [])
theorem asmP_ok (r:D):(asmP r).OK:=by intro f xs rt h; cases h; exact fun hp=>hp
def bigQ:QT:=fun d xs ob=>match d,xs,ob with
 | .func (.func f) [] [],[.int .i64 n],[]=>if f=33 then some (.ok True (.bool (!fitsB n)) []) else none
 | _,_,_=>none
theorem bigQ_ok:bigQ.OK:=by
 intro d xs ob rt h
 unfold bigQ at h
 split at h
 ·split at h
  ·rename_i hf; subst hf; cases h; exact fun _=>big_ok _
  ·cases h
 ·cases h
def bigI:List Int->Int->Int
 | [],_=> -1
 | a::r,i=>if fitsB a=true then bigI r (i+1) else i
theorem bigI_iff: ∀ (l:List Int) (i:Int),0<=i->(0<=bigI l i ↔ l.all fitsB=false)
 | [],i,_=>by simp[bigI]
 | a::r,i,h=>by
  have ih:=bigI_iff r (i+1) (by omega)
  by_cases hf:fitsB a=true
  ·simp only[bigI,hf,if_true,List.all_cons,Bool.true_and]; exact ih
  ·simp[bigI,hf,h]
theorem bigI_ge (l:List Int) (i:Int) (h:0<=i):(decide (0<=bigI l i))= !(l.all fitsB):=by
 have:=bigI_iff l i h
 cases hq:l.all fitsB with
 | true=>simp[this,hq]
 | false=>simp[this,hq]
def eOne (c:List D):Nat->Int->List D:=fun _ _=>c
theorem drop_cons {α:Type} {l:List α} {i:Nat} (h:i<l.length):l.drop i=l[i]::l.drop (i+1):=List.drop_eq_getElem_cons h
theorem intC_get {k:IntKind} {l:List Int} {i:Nat} (h:i<l.length):(intC k l)[i]? = some [.int k l[i]]:=by simp[intC,h]
theorem intC_len (k:IntKind) (l:List Int):(intC k l).length=l.length:=by simp[intC]
noncomputable def PIxV (es:List (List D)):Tr:=Tr.jmp (cut sc54 0) { tm:=[(0,D.vec 0),(1,D.func (Fn.func 33) [] []),(7,D.int .i64 (↑(List.length es):Int)),(8,D.int .i64 (0:Int))],ob:=[(0,Ob.arr false 1 3 es)] }
theorem PIxV_eq (es:List (List D)):goT Tryz.prog (ctr libT) 1 (finF false 1 rs54) 2000 [Fr.sc sc54] { tm:=envOf 0 ([]++[D.vec 0,D.func (Fn.func 33) [] []]++[]),ob:=[(0,Ob.arr false 1 3 es)] }=PIxV es:=by kernel_rfl
def hdIxV (es:List (List D)) (n i:Int):St:=⟨[(0,.vec 0),(1,.func (.func 33) [] []),(7,.int .i64 n),(8,.int .i64 i)],[(0,.arr false 1 3 es)]⟩
noncomputable def PIxV2 (es:List (List D)) (n:Int) (i:Nat) (c:Int):Tr:=brT (decide ((↑i:Int)<n)) (Tr.owe ((0:Int)<=(↑i:Int)/\(↑i:Int)<(↑(List.length es):Int)) (Tr.owe (es[Int.toNat (↑i:Int)]? = some [D.int .i64 c]) (Tr.owe True (brT (!fitsB c) (Tr.ret (D.int .i64 (↑i:Int)) [(0,Ob.arr false 1 3 es)]) (Tr.owe ((-9223372036854775808:Int)<=(↑i:Int)+(1:Int)/\(↑i:Int)+(1:Int)<=(9223372036854775807:Int)) (Tr.jmp (cut sc54 0) { tm:=[(0,D.vec 0),(1,D.func (Fn.func 33) [] []),(7,D.int .i64 n),(8,D.int .i64 ((↑i:Int)+(1:Int)))],ob:=[(0,Ob.arr false 1 3 es)] })))))) (Tr.ret (D.int .i64 (-1:Int)) [(0,Ob.arr false 1 3 es)])
theorem PIxV2_eq (es:List (List D)) (n:Int) (i:Nat) (c:Int):goT Tryz.prog (ctr libT bigQ (eOne [D.int .i64 c])) 1 (finF false 1 rs54) 2000 (cut sc54 0) (hdIxV es n (↑i:Int))=PIxV2 es n i c:=by kernel_rfl
theorem ixV_at (l:List Int) (hl:l.length<=4611686018427387904): ∀ (m i:Nat),l.length-i=m->i<=l.length →
  At Tryz.prog 1 (cut sc54 0) (hdIxV (intC .i64 l) l.length i) (FinQ false 1 rs54 fun r ob=>r= .int .i64 (bigI (l.drop i) i)/\ob=[(0,.arr false 1 3 (intC .i64 l))]):=by
 intro m
 induction m with
 | zero =>
  intro i hm hi
  refine At.tree (ctr_ok libT_ok bigQ_ok) (PIxV2_eq (intC .i64 l) l.length i 0) ?_
  unfold PIxV2
  rw[List.drop_eq_nil_of_le (by omega)]
  simp only[SS]
  exact⟨fun h=>by omega,fun _=>rfl⟩
 | succ m ih =>
  intro i hm hi
  have h1:i<l.length:=by omega
  refine At.tree (ctr_ok libT_ok bigQ_ok) (PIxV2_eq (intC .i64 l) l.length i l[i]) ?_
  unfold PIxV2
  rw[drop_cons h1]
  simp only[SS,bigI,intC_len]
  refine⟨fun _=>⟨by omega,intC_get h1,fun h=>by simp[h],fun h=>⟨by omega, ?_⟩⟩,fun h=>by omega⟩
  rw[if_pos h]; exact ih (i+1) (by omega) (by omega)
theorem ixV_ok (l:List Int) (hl:l.length<=4611686018427387904):CallL Tryz.prog (.func (.func 54) [] []) [.vec 0,.func (.func 33) [] []] [(0,.arr false 1 3 (intC .i64 l))] fun r ob=>r= .int .i64 (bigI l 0)/\ob=[(0,.arr false 1 3 (intC .i64 l))]:=by
 refine CallL.tree hdraw fp54 (ctr_ok libT_ok qnone_ok) (PIxV_eq _) ?_
 unfold PIxV
 simp only[SS,intC_len]
 exact ixV_at l hl _ 0 rfl (Nat.zero_le _)
def asmO (r:D) (ob':Obs):QT:=fun d xs ob=>some (.ok (CallL Tryz.prog d xs ob fun r0 ob0=>r0=r/\ob0=ob') r ob')
theorem asmO_ok (r:D) (ob':Obs):(asmO r ob').OK:=by intro d xs ob rt h; cases h; exact fun hp=>hp
noncomputable def PCtV (es:List (List D)) (r:Int):Tr:=Tr.owe (CallL Tryz.prog (D.func (Fn.func 54) [] []) [D.vec 0,D.func (Fn.func 33) [] []] [(0,Ob.arr false 1 3 es)] fun r0 ob0=>r0=D.int .i64 r/\ob0=[(0,Ob.arr false 1 3 es)]) (Tr.ret (D.bool (decide ((0:Int)<=r))) [(0,Ob.arr false 1 3 es)])
theorem PCtV_eq (es:List (List D)) (r:Int):goT Tryz.prog (ctr libT (asmO (D.int .i64 r) [(0,Ob.arr false 1 3 es)])) 1 (finF false 1 rs32) 2000 [Fr.sc sc32] { tm:=envOf 0 ([]++[D.vec 0,D.func (Fn.func 33) [] []]++[]),ob:=[(0,Ob.arr false 1 3 es)] }=PCtV es r:=by kernel_rfl
theorem ctV_ok (l:List Int) (hl:l.length<=4611686018427387904):CallL Tryz.prog (.func (.func 32) [] []) [.vec 0,.func (.func 33) [] []] [(0,.arr false 1 3 (intC .i64 l))] fun r ob=>r= .bool (!l.all fitsB)/\ob=[(0,.arr false 1 3 (intC .i64 l))]:=by
 refine CallL.tree hdraw fp32 (ctr_ok libT_ok (asmO_ok _ _)) (PCtV_eq (intC .i64 l) (bigI l 0)) ?_
 unfold PCtV
 simp only[SS]
 exact⟨ixV_ok l hl,bigI_ge l 0 (by decide)⟩
def eXY (x y:Int):Nat->Int->List D:=fun _ n=>if n=0 then [.int .i64 x] else [.int .i64 y]
noncomputable def PCalV (s:List UInt8) (b:Bool) (o:Option Int) (es:List (List D)) (x y:Int):Tr:=Tr.owe (CallL Tryz.prog (D.func (Fn.func 32) [] []) [D.vec 0,D.func (Fn.func 33) [] []] [(0,Ob.arr false 1 3 es)] fun r0 ob0=>r0=D.bool b/\ob0=[(0,Ob.arr false 1 3 es)]) (brT (!b) (brT (decide ((↑(List.length es):Int)=(1:Int))) (Tr.owe ((0:Int)<=(0:Int)/\(0:Int)<(↑(List.length es):Int)) (Tr.owe (es[0]? = some [D.int .i64 x]) (Tr.owe ((-9223372036854775808:Int)<=(0:Int)-x/\(0:Int)-x<=(9223372036854775807:Int)) (Tr.owe True (Tr.owe (((-9223372036854775808:Int)<=((0:Int)-x)*if s=[(45:UInt8)] then (1:Int) else (0:Int))/\(((0:Int)-x)*if s=[(45:UInt8)] then (1:Int) else (0:Int))<=(9223372036854775807:Int)) (Tr.ret (D.tuple [D.int .i64 (((0:Int)-x)*if s=[(45:UInt8)] then (1:Int) else (0:Int)),D.bool (decide (s=[(45:UInt8)]))]) [(0,Ob.arr false 1 3 es)])))))) (brT (decide ((↑(List.length es):Int)=(2:Int))) (Tr.owe ((0:Int)<=(0:Int)/\(0:Int)<(↑(List.length es):Int)) (Tr.owe (es[0]? = some [D.int .i64 x]) (Tr.owe ((0:Int)<=(1:Int)/\(1:Int)<(↑(List.length es):Int)) (Tr.owe (es[1]? = some [D.int .i64 y]) (Tr.owe (FnOK Tryz.prog 36 [D.str s,D.int .i64 x,D.int .i64 y] (D.tuple [D.int .i64 (Option.getD o (0:Int)),D.bool (Option.isSome o)])) (Tr.ret (D.tuple [D.int .i64 (Option.getD o (0:Int)),D.bool (Option.isSome o)]) [(0,Ob.arr false 1 3 es)])))))) (Tr.ret (D.tuple [D.int .i64 (0:Int),D.bool false]) [(0,Ob.arr false 1 3 es)]))) (Tr.ret (D.tuple [D.int .i64 (0:Int),D.bool false]) [(0,Ob.arr false 1 3 es)]))
theorem PCalV_eq (s:List UInt8) (b:Bool) (o:Option Int) (es:List (List D)) (x y:Int):goT Tryz.prog (ctr (PT.or fitP (asmP (resT o))) (asmO (D.bool b) [(0,Ob.arr false 1 3 es)]) (eXY x y)) 1 (finF false 1 rs10) 2000 [Fr.sc sc10] { tm:=envOf 0 ([]++[D.str s,D.vec 0]++[]),ob:=[(0,Ob.arr false 1 3 es)] }=PCalV s b o es x y:=by kernel_rfl
theorem calcR_big {s:List UInt8} {l:List Int} (h:l.all fitsB=false):calcR s l=none:=by
 unfold calcR
 rw[if_neg (by simp[h])]
theorem calV_ok (s:List UInt8) (l:List Int) (hl:l.length<=4611686018427387904):CallL Tryz.prog (.func (.func 10) [] []) [.str s,.vec 0] [(0,.arr false 1 3 (intC .i64 l))] fun r ob=>r=resT (calcR s l)/\ob=[(0,.arr false 1 3 (intC .i64 l))]:=by
 refine CallL.tree hdraw fp10 (ctr_ok (PT.or_ok fitP_ok (asmP_ok _)) (asmO_ok _ _)) (PCalV_eq s (!l.all fitsB) (fitO (calc0 s (l.getD 0 0) (l.getD 1 0))) (intC .i64 l) (l.getD 0 0) (l.getD 1 0)) ?_
 unfold PCalV
 simp only[SS,intC_len]
 refine⟨ctV_ok l hl,fun hb=>⟨fun h1=> ?_,fun h1=>⟨fun h2=> ?_,fun h2=> ?_⟩⟩,fun hb=>by rw[calcR_big hb]; rfl⟩
 ·match l,h1,hb with
  | [a],_,hb =>
   have ha:=fitsB_iff.1 (show fitsB a=true by simpa using hb)
   refine⟨by simp,rfl,by simp only[List.getD_cons_zero]; omega,by simp only[List.getD_cons_zero]; split <;> omega, ?_⟩
   simp only[calcR,hb,if_true,List.getD_cons_zero]
   by_cases hs:s=[45]
   ·simp[hs,resT]
   ·simp[hs,resT]
 ·match l,h2,hb with
  | [a,b],_,hb =>
   have hab:fitsB a=true/\fitsB b=true:=by simpa using hb
   refine⟨by simp,rfl,by simp,rfl, ?_, ?_⟩
   ·exact calc_ok s a b hab.1 hab.2
   ·simp only[calcR,hb,if_true]; rfl
 ·match l,h1,h2,hb with
  | [],_,_,_=>rfl
  | [a],h,_,_=>exact absurd rfl h
  | [a,b],_,h,_=>exact absurd rfl h
  | _::_::_::_,_,_,hb=>simp only[calcR,hb,if_true]; rfl
end Go.Proofs.YtfoklncmfoogcaaGreatDoor
