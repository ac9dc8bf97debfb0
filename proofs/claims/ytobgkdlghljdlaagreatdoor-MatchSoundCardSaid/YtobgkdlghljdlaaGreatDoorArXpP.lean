/- Own work: a layer over the kit: plain data,a walk over it,its soundness. -/
import Derived.Test.YtobgkdlghljdlaaGreatDoorArXpB
import Derived.Test.YtobgkdlghljdlaaGreatDoorSx11
set_option linter.unusedSectionVars false
set_option linter.unusedVariables false
set_option linter.unusedSimpArgs false
set_option linter.deprecated false
set_option maxRecDepth 100000
/- Too many: limited,interval,the rows of lists of numbers. -/
namespace Go.Proofs.YtobgkdlghljdlaaGreatDoor
open Go.Sx
abbrev manyV:Value:= .iface 79 (.agg #[])
def asmPan:QT:=fun d xs ob=>some (.ok (CallL Tryz.prog d xs ob fun r0 ob0=>r0= .pan manyV/\ob0=[]) (.pan manyV) [])
theorem asmPan_ok:asmPan.OK:=by intro d xs ob rt h; cases h; exact fun hp=>hp
def asmJ (b:Bool) (r:D) (g:Obs->Obs):QT:=fun d xs ob=>some (.br b (.ok (CallL Tryz.prog d xs ob fun r0 ob0=>r0=r/\ob0=g ob) r (g ob)) (.ok (CallL Tryz.prog d xs ob fun r0 ob0=>r0= .pan manyV/\ob0=[]) (.pan manyV) []))
theorem asmJ_ok (b:Bool) (r:D) (g:Obs->Obs):(asmJ b r g).OK:=by
 intro d xs ob rt h
 cases h
 cases b
 ·exact fun hp=>hp
 ·exact fun hp=>hp
theorem PLiP_eq (n:Int):goT Tryz.prog (ctr libT) 0 (finF false 0 rsP116) 2000 [Fr.sc scP116] { tm:=envOf 0 ([]++[dI n]++[]),ob:=[] }=(brT (decide ((1000:Int)<n)) (Rt (D.pan (Value.iface 79 (Value.agg #[]))) []) (Rt (dI n) []):Tr):=by kernel_rfl
theorem limC_ok (n:Int) (h:n<=1000):CF 116 [.int .i64 n] [] fun r ob=>r= .int .i64 n/\ob=[]:=by
 refine CallL.tree hdraw fpP116 (ctr_ok libT_ok qnone_ok) (PLiP_eq n) ?_
 simp only[SS]
 exact⟨fun h=>by omega,fun _=>trivial⟩
theorem limN_ok (n:Int) (h:1000<n):CF 116 [.int .i64 n] [] fun r ob=>r= .pan manyV/\ob=[]:=by
 refine CallL.tree hdraw fpP116 (ctr_ok libT_ok qnone_ok) (PLiP_eq n) ?_
 simp only[SS]
 exact⟨fun h=>trivial,fun _=>by omega⟩
def limQ:QT:=fun d xs ob=>match d,xs,ob with
 | .func (.func f) [] [],[.int .i64 n],[]=>if f=116 then some (.br (decide (1000<n)) (.ok (1000<n) (.pan manyV) []) (.ok (n<=1000) (.int .i64 n) [])) else none
 | _,_,_=>none
theorem limQ_ok:limQ.OK:=by
 intro d xs ob rt h
 unfold limQ at h
 split at h
 ·split at h
  ·rename_i n hf
   subst hf
   cases h
   by_cases hn:1000<n
   ·simp only[hn,decide_true]; exact fun _=>limN_ok _ hn
   ·simp only[hn,decide_false]; exact fun _=>limC_ok _ (by omega)
  ·cases h
 ·cases h
theorem PIvP_eq (es fs:LD) (a b:Int):goT Tryz.prog { F:=fun t=>if t=17 then asmP (dI a) else asmP (dI b),C:=fun x=>limQ,E:=noE } 0 (finF false 0 rsP86) 2000 [Fr.sc scP86] { tm:=envOf 0 ([]++[dL es [],dL fs []]++[]),ob:=[] }=(brT (decide ((↑(List.length es):Int)=(0:Int))) (Rt (dV 0) [(0,oR true 4 35 [])]) (brT (decide ((↑(List.length fs):Int)=(0:Int))) (Rt (dV 0) [(0,oR true 4 35 [])]) (Ow (FK 114 [dL es []] (dI a)) (Ow (FK 115 [dL fs []] (dI b)) (Ow ((-9223372036854775808:Int)<=b-a/\b-a<=(9223372036854775807:Int)) (Ow ((-9223372036854775808:Int)<=b-a+(1:Int)/\b-a+(1:Int)<=(9223372036854775807:Int)) (brT (decide ((1000:Int)<b-a+(1:Int))) (Ow ((1000:Int)<b-a+(1:Int)) (Rt (D.pan manyV) [])) (Ow (b-a+(1:Int)<=(1000:Int)) (Jm (cut scP86 0) { tm:=[(4,dV 0),(6,dI b),(7,dI a)],ob:=[(0,oR true 4 35 [])] })))))))):Tr):=by kernel_rfl
def recOpP (st:LoopState) (pend:Option Code) (ds:List D):Ob:= .gen (.loop st pend #[29] (scP88.rngA 0) (scP88.rngB 0) 56 keysOp) ds
def obOP (s:LU) (es:LD) (ks vs:List D):Obs:=[(0,.cells [.slice es []]),(1,recOpP .ready none (dsOp 0 2 3 4)),(2,.arr true 1 110 es),(3,.cells [.str s]),(4,.cells [.map 5]),(5,.gen (.mapC ks vs) [])]
def obFP (s:LU) (es row:LD) (ks vs:List D):Obs:=[(0,.cells [.slice es []]),(1,.cells [.yld 4]),(2,.cells [.vec 5]),(3,.cells [.func (.func 140) [] [.ptr 0 0,.ptr 1 0,.ptr 2 0,.ptr 3 0]]),
 (4,.gen (.loop .ready none #[29] (scP88.rngA 0) (scP88.rngB 0) 56 [28,27,2,5,8]) [.func (.func 139) [] [.ptr 0 0],.vec 6,.ptr 7 0,.vec 6,.ptr 8 0]),(5,.arr false 1 3 row),(6,.arr true 1 110 es),(7,.cells [.str s]),(8,.cells [.map 9]),(9,.gen (.mapC ks vs) [])]
theorem CR1P_eq (s:LU) (es:LD) (ks vs:List D) (b:Bool) (row':LD) (ks' vs':List D):goT Tryz.prog (ctr libT (asmJ b (dB true) (updO row' ks' vs'))) 6 (finF false 6 rsP139) 2000 [Fr.sc scP139] { tm:=envOf 0 ([]++[D.yld 1]++[dP 0 0]),ob:=obOP s es ks vs }=(Ow ((0:Int)<=(↑(List.length es):Int)/\(↑(List.length es):Int)*(8:Int)<=(281474976710656:Int)/\(↑(List.length es):Int)<=(1073741824:Int)) (brT b (Ow (CallL Tryz.prog (dF 140 [] [dP 0 0,dP 1 0,dP 2 0,dP 3 0]) [dI (0:Int)] [(0,oC [dL es []]),(1,oC [D.yld 4]),(2,oC [dV 5]),(3,oC [dF 140 [] [dP 0 0,dP 1 0,dP 2 0,dP 3 0]]),(4,Ob.gen (Gen.loop LoopState.ready none #[29] (SC.rngA scP88 0) (SC.rngB scP88 0) 56 [28,27,2,5,8]) [dF 139 [] [dP 0 0],dV 6,dP 7 0,dV 6,dP 8 0]),(5,oR false 1 3 (List.replicate (Int.toNat (↑(List.length es):Int)) [dI (0:Int)])),(6,oR true 1 110 es),(7,oC [dS s]),(8,oC [D.map 9]),(9,Ob.gen (Gen.mapC ks vs) [])] fun r0 ob0=>r0=dB true/\ob0=[(0,oC [dL es []]),(1,oC [D.yld 4]),(2,oC [dV 5]),(3,oC [dF 140 [] [dP 0 0,dP 1 0,dP 2 0,dP 3 0]]),(4,Ob.gen (Gen.loop LoopState.ready none #[29] (SC.rngA scP88 0) (SC.rngB scP88 0) 56 [28,27,2,5,8]) [dF 139 [] [dP 0 0],dV 6,dP 7 0,dV 6,dP 8 0]),(5,oR false 1 3 row'),(6,oR true 1 110 es),(7,oC [dS s]),(8,oC [D.map 9]),(9,Ob.gen (Gen.mapC ks' vs') [])]) (Rt (D.tuple []) [(0,oC [dL es []]),(1,Ob.gen (Gen.loop LoopState.ready none #[29] (SC.rngA scP88 0) (SC.rngB scP88 0) 56 [28,27,2,5,8]) [dF 139 [] [dP 0 0],dV 2,dP 3 0,dV 2,dP 4 0]),(2,oR true 1 110 es),(3,oC [dS s]),(4,oC [D.map 5]),(5,Ob.gen (Gen.mapC ks' vs') [])])) (Ow (CallL Tryz.prog (dF 140 [] [dP 0 0,dP 1 0,dP 2 0,dP 3 0]) [dI (0:Int)] [(0,oC [dL es []]),(1,oC [D.yld 4]),(2,oC [dV 5]),(3,oC [dF 140 [] [dP 0 0,dP 1 0,dP 2 0,dP 3 0]]),(4,Ob.gen (Gen.loop LoopState.ready none #[29] (SC.rngA scP88 0) (SC.rngB scP88 0) 56 [28,27,2,5,8]) [dF 139 [] [dP 0 0],dV 6,dP 7 0,dV 6,dP 8 0]),(5,oR false 1 3 (List.replicate (Int.toNat (↑(List.length es):Int)) [dI (0:Int)])),(6,oR true 1 110 es),(7,oC [dS s]),(8,oC [D.map 9]),(9,Ob.gen (Gen.mapC ks vs) [])] fun r0 ob0=>r0=D.pan manyV/\ob0=[]) (Rt (D.pan manyV) []))):Tr):=by kernel_rfl
theorem CFlP_eq (s:LU) (es row xs row':LD) (ks vs ks' vs':List D) (k:Int) (b:Bool):goT Tryz.prog (ctr libT (asmJ b (dB true) (updO row' ks' vs')) (eOne [dL xs []])) 10 (finF false 10 rsP140) 2000 [Fr.sc scP140] { tm:=envOf 0 ([]++[dI k]++[dP 0 0,dP 1 0,dP 2 0,dP 3 0]),ob:=obFP s es row ks vs }=(brT (decide (k=(↑(List.length es):Int))) (brT b (Ow (CallL Tryz.prog (D.yld 0) [dV 1] [(0,Ob.gen (Gen.loop LoopState.ready none #[29] (SC.rngA scP88 0) (SC.rngB scP88 0) 56 [28,27,2,5,8]) [dF 139 [] [dP 2 0],dV 3,dP 4 0,dV 3,dP 5 0]),(1,oR false 1 3 row),(2,oC [dL es []]),(3,oR true 1 110 es),(4,oC [dS s]),(5,oC [D.map 6]),(6,Ob.gen (Gen.mapC ks vs) [])] fun r0 ob0=>r0=dB true/\ob0=[(0,Ob.gen (Gen.loop LoopState.ready none #[29] (SC.rngA scP88 0) (SC.rngB scP88 0) 56 [28,27,2,5,8]) [dF 139 [] [dP 2 0],dV 3,dP 4 0,dV 3,dP 5 0]),(1,oR false 1 3 row'),(2,oC [dL es []]),(3,oR true 1 110 es),(4,oC [dS s]),(5,oC [D.map 6]),(6,Ob.gen (Gen.mapC ks' vs') [])]) (Rt (dB true) [(0,oC [dL es []]),(1,oC [D.yld 4]),(2,oC [dV 5]),(3,oC [dF 140 [] [dP 0 0,dP 1 0,dP 2 0,dP 3 0]]),(4,Ob.gen (Gen.loop LoopState.ready none #[29] (SC.rngA scP88 0) (SC.rngB scP88 0) 56 [28,27,2,5,8]) [dF 139 [] [dP 0 0],dV 6,dP 7 0,dV 6,dP 8 0]),(5,oR false 1 3 row'),(6,oR true 1 110 es),(7,oC [dS s]),(8,oC [D.map 9]),(9,Ob.gen (Gen.mapC ks' vs') [])])) (Ow (CallL Tryz.prog (D.yld 0) [dV 1] [(0,Ob.gen (Gen.loop LoopState.ready none #[29] (SC.rngA scP88 0) (SC.rngB scP88 0) 56 [28,27,2,5,8]) [dF 139 [] [dP 2 0],dV 3,dP 4 0,dV 3,dP 5 0]),(1,oR false 1 3 row),(2,oC [dL es []]),(3,oR true 1 110 es),(4,oC [dS s]),(5,oC [D.map 6]),(6,Ob.gen (Gen.mapC ks vs) [])] fun r0 ob0=>r0=D.pan manyV/\ob0=[]) (Rt (D.pan manyV) [(1,oC [D.yld 4]),(2,oC [dV 5]),(3,oC [dF 140 [] [dP 0 0,dP 1 0,dP 2 0,dP 3 0]])]))) (Ow ((0:Int)<=k/\es[Int.toNat k]? = some [dL xs []]) (Jm (cut scP140 0) { tm:=[(0,dI k),(3,dP 2 0),(4,dP 3 0),(19,dL xs []),(20,dI (↑(List.length xs):Int)),(21,dI (0:Int))],ob:=[(0,oC [dL es []]),(1,oC [D.yld 4]),(2,oC [dV 5]),(3,oC [dF 140 [] [dP 0 0,dP 1 0,dP 2 0,dP 3 0]]),(4,Ob.gen (Gen.loop LoopState.ready none #[29] (SC.rngA scP88 0) (SC.rngB scP88 0) 56 [28,27,2,5,8]) [dF 139 [] [dP 0 0],dV 6,dP 7 0,dV 6,dP 8 0]),(5,oR false 1 3 row),(6,oR true 1 110 es),(7,oC [dS s]),(8,oC [D.map 9]),(9,Ob.gen (Gen.mapC ks vs) [])] })):Tr):=by kernel_rfl
theorem CFl2P_eq (s:LU) (es row xs row':LD) (ks vs ks' vs':List D) (k m:Int) (i:Nat) (x:Int) (b:Bool):goT Tryz.prog (ctr libT (asmJ b (dB true) (updO row' ks' vs')) (eOne [dI x])) 10 (finF false 10 rsP140) 2000 (cut scP140 0) (hdF k m (↑i:Int) xs (obFP s es row ks vs))=(brT (decide ((↑i:Int)<m)) (Ow ((0:Int)<=(↑i:Int)/\xs[Int.toNat (↑i:Int)]? = some [dI x]) (Ow ((0:Int)<=k/\k<(↑(List.length row):Int)) (Ow (Int.toNat k<List.length row) (Ow ((-9223372036854775808:Int)<=k+(1:Int)/\k+(1:Int)<=(9223372036854775807:Int)) (brT b (Ow (CallL Tryz.prog (dF 140 [] [dP 0 0,dP 1 0,dP 2 0,dP 3 0]) [dI (k+(1:Int))] [(0,oC [dL es []]),(1,oC [D.yld 4]),(2,oC [dV 5]),(3,oC [dF 140 [] [dP 0 0,dP 1 0,dP 2 0,dP 3 0]]),(4,Ob.gen (Gen.loop LoopState.ready none #[29] (SC.rngA scP88 0) (SC.rngB scP88 0) 56 [28,27,2,5,8]) [dF 139 [] [dP 0 0],dV 6,dP 7 0,dV 6,dP 8 0]),(5,oR false 1 3 (List.set row (Int.toNat k) [dI x])),(6,oR true 1 110 es),(7,oC [dS s]),(8,oC [D.map 9]),(9,Ob.gen (Gen.mapC ks vs) [])] fun r0 ob0=>r0=dB true/\ob0=[(0,oC [dL es []]),(1,oC [D.yld 4]),(2,oC [dV 5]),(3,oC [dF 140 [] [dP 0 0,dP 1 0,dP 2 0,dP 3 0]]),(4,Ob.gen (Gen.loop LoopState.ready none #[29] (SC.rngA scP88 0) (SC.rngB scP88 0) 56 [28,27,2,5,8]) [dF 139 [] [dP 0 0],dV 6,dP 7 0,dV 6,dP 8 0]),(5,oR false 1 3 row'),(6,oR true 1 110 es),(7,oC [dS s]),(8,oC [D.map 9]),(9,Ob.gen (Gen.mapC ks' vs') [])]) (Ow ((-9223372036854775808:Int)<=(↑i:Int)+(1:Int)/\(↑i:Int)+(1:Int)<=(9223372036854775807:Int)) (Jm (cut scP140 0) { tm:=[(0,dI k),(3,dP 2 0),(4,dP 3 0),(19,dL xs []),(20,dI m),(21,dI ((↑i:Int)+(1:Int)))],ob:=[(0,oC [dL es []]),(1,oC [D.yld 4]),(2,oC [dV 5]),(3,oC [dF 140 [] [dP 0 0,dP 1 0,dP 2 0,dP 3 0]]),(4,Ob.gen (Gen.loop LoopState.ready none #[29] (SC.rngA scP88 0) (SC.rngB scP88 0) 56 [28,27,2,5,8]) [dF 139 [] [dP 0 0],dV 6,dP 7 0,dV 6,dP 8 0]),(5,oR false 1 3 row'),(6,oR true 1 110 es),(7,oC [dS s]),(8,oC [D.map 9]),(9,Ob.gen (Gen.mapC ks' vs') [])] }))) (Ow (CallL Tryz.prog (dF 140 [] [dP 0 0,dP 1 0,dP 2 0,dP 3 0]) [dI (k+(1:Int))] [(0,oC [dL es []]),(1,oC [D.yld 4]),(2,oC [dV 5]),(3,oC [dF 140 [] [dP 0 0,dP 1 0,dP 2 0,dP 3 0]]),(4,Ob.gen (Gen.loop LoopState.ready none #[29] (SC.rngA scP88 0) (SC.rngB scP88 0) 56 [28,27,2,5,8]) [dF 139 [] [dP 0 0],dV 6,dP 7 0,dV 6,dP 8 0]),(5,oR false 1 3 (List.set row (Int.toNat k) [dI x])),(6,oR true 1 110 es),(7,oC [dS s]),(8,oC [D.map 9]),(9,Ob.gen (Gen.mapC ks vs) [])] fun r0 ob0=>r0=D.pan manyV/\ob0=[]) (Rt (D.pan manyV) []))))))) (Rt (dB true) [(0,oC [dL es []]),(1,oC [D.yld 4]),(2,oC [dV 5]),(3,oC [dF 140 [] [dP 0 0,dP 1 0,dP 2 0,dP 3 0]]),(4,Ob.gen (Gen.loop LoopState.ready none #[29] (SC.rngA scP88 0) (SC.rngB scP88 0) 56 [28,27,2,5,8]) [dF 139 [] [dP 0 0],dV 6,dP 7 0,dV 6,dP 8 0]),(5,oR false 1 3 row),(6,oR true 1 110 es),(7,oC [dS s]),(8,oC [D.map 9]),(9,Ob.gen (Gen.mapC ks vs) [])]):Tr):=by kernel_rfl
theorem TyOP_eq (s:LU) (es row:LD) (ks vs ks' vs':List D) (b:Bool) (n m:Int):yldTJ Tryz.prog (ctr limP (QT.or limQ (asmA (D.tuple [dI n,dB b]) id)) (eMap ks' vs' (dI m))) 7 0 56 #[29] (SC.rngA scP88 0) (SC.rngB scP88 0) keysOp (dsOp 2 3 4 5) 2000 { tm:=putP (List.zip [29] [dV 1]) (List.zip keysOp (dsOp 2 3 4 5)),ob:=obY s es row ks vs }=(Ow (CF 119 [dS s,dV 0] [(0,oR false 1 3 row)] fun r0 ob0=>r0=D.tuple [dI n,dB b]/\ob0=[(0,oR false 1 3 row)]) (brT b (Ow (mput (dI n) (dI n) ks vs=some (ks',vs')) (Ow (some (dI (↑(List.length ks'):Int))=some (dI m)) (brT (decide ((1000:Int)<m)) (Ow ((1000:Int)<m) (Rt (D.pan manyV) [(0,Ob.gen (Gen.loop LoopState.busy none #[29] (SC.rngA scP88 0) (SC.rngB scP88 0) 56 [28,27,2,5,8]) [dF 139 [] [dP 2 0],dV 3,dP 4 0,dV 3,dP 5 0]),(1,oR false 1 3 row),(2,oC [dL es []]),(3,oR true 1 110 es),(4,oC [dS s]),(5,oC [D.map 6]),(6,Ob.gen (Gen.mapC ks' vs') [])])) (Ow (m<=(1000:Int)) (Rt (dB true) [(0,Ob.gen (Gen.loop LoopState.ready none #[29] (SC.rngA scP88 0) (SC.rngB scP88 0) 56 [28,27,2,5,8]) [dF 139 [] [dP 2 0],dV 3,dP 4 0,dV 3,dP 5 0]),(1,oR false 1 3 row),(2,oC [dL es []]),(3,oR true 1 110 es),(4,oC [dS s]),(5,oC [D.map 6]),(6,Ob.gen (Gen.mapC ks' vs') [])]))))) (Rt (dB true) [(0,Ob.gen (Gen.loop LoopState.ready none #[29] (SC.rngA scP88 0) (SC.rngB scP88 0) 56 [28,27,2,5,8]) [dF 139 [] [dP 2 0],dV 3,dP 4 0,dV 3,dP 5 0]),(1,oR false 1 3 row),(2,oC [dL es []]),(3,oR true 1 110 es),(4,oC [dS s]),(5,oC [D.map 6]),(6,Ob.gen (Gen.mapC ks vs) [])])):Tr):=by kernel_rfl
theorem ivP_ok (a b:Int):(⟨fun t=>if t=17 then asmP (.int .i64 a) else asmP (.int .i64 b),fun _=>limQ,noE⟩:Ctr).OK Tryz.prog:=by
 refine⟨fun t=> ?_,fun _=>limQ_ok⟩
 show PT.OK (if t=17 then asmP (.int .i64 a) else asmP (.int .i64 b))
 split
 ·exact asmP_ok _
 ·exact asmP_ok _
theorem ivN_ok (lo hi:List Int) (h1:lo.length<=1000) (h2:hi.length<=1000) (hlo: ∀ x∈lo,fitsB x=true) (hhi: ∀ x∈hi,fitsB x=true) (h:ivl lo hi=none) :
  CF 86 [.slice (intC .i64 lo) [],.slice (intC .i64 hi) []] [] fun r ob=>r= .pan manyV/\ob=[]:=by
 refine CallL.tree hdraw fpP86 (ivP_ok (minI lo) (maxI hi)) (PIvP_eq (intC .i64 lo) (intC .i64 hi) (minI lo) (maxI hi)) ?_
 simp only[SS,intC_len]
 unfold ivl at h
 split at h
 ·cases h
 ·rename_i he
  split at h
  ·cases h
  ·rename_i h5
   have n1:lo≠[]:=fun e=>he (.inl (by rw[e]; rfl))
   have n2:hi≠[]:=fun e=>he (.inr (by rw[e]; rfl))
   have f1:=fitsB_iff.1 (hlo _ (minI_mem n1))
   have f2:=fitsB_iff.1 (hhi _ (maxI_mem n2))
   have l1:=List.length_pos_iff.2 n1
   have l2:=List.length_pos_iff.2 n2
   exact⟨fun h=>by omega,fun _=>⟨fun h=>by omega,fun _=>⟨min_ok lo n1 (by omega),max_ok hi n2 (by omega),by omega,by omega,fun _=>by omega,fun h=>by omega⟩⟩⟩
def RJ (z:Nat) (r0:D) (X:Obs):D->Obs->Prop:=fun r o=>(z<=1000->r=r0/\o=X)/\(1000<z->r= .pan manyV)
theorem rj_ok {z:Nat} {r0:D} {X:Obs} (h:z<=1000):RJ z r0 X r0 X:=⟨fun _=>⟨rfl,rfl⟩,fun h'=>by omega⟩
theorem rj_pan {z:Nat} {r0:D} {X o:Obs} (h:1000<z):RJ z r0 X (.pan manyV) o:=⟨fun h'=>by omega,fun _=>rfl⟩
def CJ (d:D) (args:List D) (ob:Obs) (z:Nat) (r0:D) (X:Obs):Prop :=
 (z<=1000->CallL Tryz.prog d args ob fun r o=>r=r0/\o=X)/\(1000<z->CallL Tryz.prog d args ob fun r o=>r= .pan manyV/\o=[])
theorem cj_of {d:D} {args:List D} {ob:Obs} {z:Nat} {r0:D} {X:Obs} (h:CallL Tryz.prog d args ob (RJ z r0 X)):CJ d args ob z r0 X :=
 ⟨fun hz=>h.mono fun _ _ hr=>hr.1 hz,fun hz=>h.pdrop fun _ _ hr=>hr.2 hz⟩
def yObP (s:LU) (es row:LD) (ks vs:List D):Obs:=(0,recOpP .ready none (dsOp 2 3 4 5))::obY s es row ks vs
theorem yldJ_ok (s:LU) (L:List (List Int)) (row acc:List Int) (hr:row.length<=4611686018427387904) (hacc:acc.length<=1000) :
  CJ (.yld 0) [.vec 1] (yObP s (lisD L) (intC .i64 row) (intD acc) (intD acc)) (opB s row acc).length (.bool true) (yObP s (lisD L) (intC .i64 row) (intD (opB s row acc)) (intD (opB s row acc))):=by
 refine cj_of ?_
 refine CallL.yldTJ hdraw (ctr_ok limP_ok (QT.or_ok limQ_ok (asmA_ok _ _))) rfl (TyOP_eq s (lisD L) (intC .i64 row) (intD acc) (intD acc) (intD (opB s row acc)) (intD (opB s row acc)) (calcR s row).isSome ((calcR s row).getD 0) (opB s row acc).length) ?_
 simp only[SS,intD_len]
 refine⟨calV_ok s row hr,fun hb=> ?_,fun hb=> ?_⟩
 ·obtain⟨n,hn⟩:=Option.isSome_iff_exists.1 hb
  have e:opB s row acc=insI n acc:=by unfold opB; rw[hn]
  rw[e,hn]
  refine⟨mput_int n acc,fun h=>⟨by omega,rj_pan (by omega)⟩,fun h=>⟨by omega,rj_ok (by omega)⟩⟩
 ·have e:opB s row acc=acc:=by
   unfold opB
   cases hq:calcR s row with
   | none=>rfl
   | some n=>rw[hq] at hb; cases hb
  rw[e]
  exact rj_ok hacc
def FilJ (s:LU) (L:List (List Int)) (k:Nat) (row acc:List Int):Prop:=CJ (.func (.func 140) [] [.ptr 0 0,.ptr 1 0,.ptr 2 0,.ptr 3 0]) [.int .i64 k] (obFP s (lisD L) (intC .i64 row) (intD acc) (intD acc))
 (fillS (opB s) (L.drop k) k (row,acc)).2.length (.bool true) (obFP s (lisD L) (intC .i64 (fillS (opB s) (L.drop k) k (row,acc)).1) (intD (fillS (opB s) (L.drop k) k (row,acc)).2) (intD (fillS (opB s) (L.drop k) k (row,acc)).2))
abbrev fldI (s:LU) (L:List (List Int)) (k:Nat) (l:List Int) (p:List Int × List Int):List Int × List Int:=l.foldl (fun p x=>fillS (opB s) (L.drop (k+1)) (k+1) (p.1.set k x,p.2)) p
theorem filJ_at (s:LU) (L:List (List Int)) (k:Nat) (hk:k<L.length) (hL:L.length<=1073741824) (l:List Int) (hl:l.length<=1073741824)
  (HF: ∀ row acc,row.length=L.length->acc.length<=1000->FilJ s L (k+1) row acc): ∀ (m i:Nat) (row acc:List Int),l.length-i=m->i<=l.length->row.length=L.length->acc.length<=1000 →
  At Tryz.prog 10 (cut scP140 0) (hdF k l.length i (intC .i64 l) (obFP s (lisD L) (intC .i64 row) (intD acc) (intD acc))) (FinQ false 10 rsP140
   (RJ (fldI s L k (l.drop i) (row,acc)).2.length (.bool true) (obFP s (lisD L) (intC .i64 (fldI s L k (l.drop i) (row,acc)).1) (intD (fldI s L k (l.drop i) (row,acc)).2) (intD (fldI s L k (l.drop i) (row,acc)).2)))):=by
 intro m
 induction m with
 | zero =>
  intro i row acc hm hi hrow hz
  refine At.tree (ctr_ok libT_ok (asmJ_ok true _ _)) (CFl2P_eq s (lisD L) (intC .i64 row) (intC .i64 l) [] (intD acc) (intD acc) [] [] k l.length i 0 true) ?_
  have e:l.drop i=[]:=List.drop_eq_nil_of_le (by omega)
  rw[e]
  simp only[SS]
  exact⟨fun h=>by omega,fun _=>rj_ok hz⟩
 | succ m ih =>
  intro i row acc hm hi hrow hz
  have h1:i<l.length:=by omega
  simp only[fldI]
  rw[drop_cons h1,List.foldl_cons]
  have hlen:(fillS (opB s) (L.drop (k+1)) (k+1) (row.set k l[i],acc)).1.length=L.length:=by rw[fillS_len]; simpa using hrow
  have hmono:=fold_mono (z:=List.length) (opB_len s) (L.drop (k+1)) k (l.drop (i+1)) (fillS (opB s) (L.drop (k+1)) (k+1) (row.set k l[i],acc))
  have hC:=HF (row.set k l[i]) acc (by simpa using hrow) hz
  unfold FilJ CJ at hC
  have hI:=ih (i+1) (fillS (opB s) (L.drop (k+1)) (k+1) (row.set k l[i],acc)).1 (fillS (opB s) (L.drop (k+1)) (k+1) (row.set k l[i],acc)).2 (by omega) (by omega) hlen
  simp only[fldI] at hI
  refine At.tree (ctr_ok libT_ok (asmJ_ok (decide ((fillS (opB s) (L.drop (k+1)) (k+1) (row.set k l[i],acc)).2.length<=1000)) _ _)) (CFl2P_eq s (lisD L) (intC .i64 row) (intC .i64 l) (intC .i64 (fillS (opB s) (L.drop (k+1)) (k+1) (row.set k l[i],acc)).1) (intD acc) (intD acc) (intD (fillS (opB s) (L.drop (k+1)) (k+1) (row.set k l[i],acc)).2) (intD (fillS (opB s) (L.drop (k+1)) (k+1) (row.set k l[i],acc)).2) k l.length i l[i] _) ?_
  simp only[SS,intC_len,intC_set]
  refine⟨fun _=>⟨⟨by omega,intC_get h1⟩,by omega,by omega,by omega,fun hp=>⟨hC.1 hp,by omega,hI hp⟩,fun hp=>⟨hC.2 (by omega),rj_pan (by omega)⟩⟩,fun h=>by omega⟩
theorem filJ_ok (s:LU) (L:List (List Int)) (hL:L.length<=1073741824) (hl: ∀ l∈L,l.length<=1073741824): ∀ (m k:Nat),L.length-k=m->k<=L.length-> ∀ row acc,row.length=L.length->acc.length<=1000->FilJ s L k row acc:=by
 intro m
 induction m with
 | zero =>
  intro k hm hk row acc hrow hz
  have e:L.drop k=[]:=List.drop_eq_nil_of_le (by omega)
  have hY:=yldJ_ok s L row acc (by omega) hz
  unfold FilJ
  rw[e]
  simp only[fillS]
  refine cj_of (CallL.tree hdraw fpP140 (ctr_ok libT_ok (asmJ_ok (decide ((opB s row acc).length<=1000)) _ _)) (CFlP_eq s (lisD L) (intC .i64 row) [] (intC .i64 row) (intD acc) (intD acc) (intD (opB s row acc)) (intD (opB s row acc)) k _) ?_)
  simp only[SS,lisD_len]
  exact⟨fun _=>⟨fun hp=>⟨hY.1 hp,rj_ok hp⟩,fun hp=>⟨hY.2 (by omega),rj_pan (by omega)⟩⟩,fun h=>by omega⟩
 | succ m ih =>
  intro k hm hk row acc hrow hz
  have h1:k<L.length:=by omega
  have hA:=filJ_at s L k h1 hL L[k] (hl _ (List.getElem_mem h1)) (fun row acc hr hz=>ih (k+1) (by omega) (by omega) row acc hr hz) _ 0 row acc rfl (Nat.zero_le _) hrow hz
  unfold FilJ
  rw[drop_cons h1]
  simp only[fillS]
  simp only[List.drop_zero] at hA
  refine cj_of (CallL.tree hdraw fpP140 (ctr_ok libT_ok (asmJ_ok true _ _)) (CFlP_eq s (lisD L) (intC .i64 row) (intC .i64 L[k]) [] (intD acc) (intD acc) [] [] k true) ?_)
  simp only[SS,lisD_len,intC_len]
  exact⟨fun h=>by omega,fun _=>⟨⟨by omega,lisD_get h1⟩,hA⟩⟩
theorem rwsN_ok (s:LU) (L:List (List Int)) (hL:L.length<=1073741824) (hl: ∀ l∈L,l.length<=1073741824) (hz:1000<(fillS (opB s) L 0 (List.replicate L.length 0,[])).2.length) :
  CallL Tryz.prog (.func (.func 139) [] [.ptr 0 0]) [.yld 1] (obOP s (lisD L) [] []) fun r ob=>r= .pan manyV/\ob=[]:=by
 have hF:=filJ_ok s L hL hl _ 0 rfl (Nat.zero_le _) (List.replicate L.length 0) [] (by simp) (by simp)
 unfold FilJ CJ at hF
 rw[List.drop_zero] at hF
 have hN:=hF.2 hz
 have e:intC .i64 (List.replicate L.length 0)=List.replicate L.length [.int .i64 0]:=by simp[intC]
 rw[e] at hN
 refine CallL.pdrop (R:=fun r _=>r= .pan manyV) ?_ fun _ _ h=>h
 refine CallL.tree hdraw fpP139 (ctr_ok libT_ok (asmJ_ok false _ _)) (CR1P_eq s (lisD L) [] [] false [] [] []) ?_
 simp only[SS,lisD_len]
 exact⟨⟨by omega,by omega,by omega⟩,fun h=>(Bool.noConfusion h),hN⟩
end Go.Proofs.YtobgkdlghljdlaaGreatDoor
/- Too many: operation,functions,expand. -/
namespace Go.Proofs.YtobgkdlghljdlaaGreatDoor
open Go.Sx
theorem OpPA_eq (s:LU) (es ext:LD):goT Tryz.prog (ctr libT) 0 (finF false 0 rsP88) 2000 [Fr.sc scP88] { tm:=envOf 0 ([]++[dS s,dL es ext]++[]),ob:=[] }=(Jm (frg scP88 0) { tm:=[(1,dL es ext),(2,dP 0 0)],ob:=[(0,oC [dS s])] }:Tr):=by kernel_rfl
theorem OpP0_eq (s:LU) (es ext:LD):goT Tryz.prog (ctr libT) 0 (finF false 0 rsP88) 2000 (frg scP88 0) { tm:=[(1,dL es ext),(2,dP 0 0)],ob:=[(0,oC [dS s])] }=(Jm (frg scP88 1) { tm:=[(1,dL es ext),(2,dP 0 0),(5,dV 1)],ob:=[(0,oC [dS s]),(1,oR true 1 110 [])] }:Tr):=by kernel_rfl
theorem OpP1_eq (s:LU) (es ext:LD):goT Tryz.prog (ctr libT) 0 (finF false 0 rsP88) 2000 (frg scP88 1) { tm:=[(1,dL es ext),(2,dP 0 0),(5,dV 1)],ob:=[(0,oC [dS s]),(1,oR true 1 110 [])] }=(Jm (cut scP88 0) { tm:=[(2,dP 0 0),(5,dV 1),(14,dL es ext),(15,dI (↑(List.length es):Int)),(16,dI (0:Int))],ob:=[(0,oC [dS s]),(1,oR true 1 110 [])] }:Tr):=by kernel_rfl
theorem OpPL_eq (s:LU) (es ext row xs:LD) (m:Int) (i:Nat) (q:LD):goT Tryz.prog (ctr (asmP (D.own 1 3 q)) qnone (eOne [dL xs []])) 0 (finF false 0 rsP88) 2000 (cut scP88 0) (hdOp s es ext row m (↑i:Int))=(brT (decide ((↑i:Int)<m)) (Ow ((0:Int)<=(↑i:Int)/\es[Int.toNat (↑i:Int)]? = some [dL xs []]) (Ow (FK 87 [dL xs []] (D.own 1 3 q)) (Ow (allLen 1 [[dL q []]]/\List.length row+1<=1073741824) (Ow ((-9223372036854775808:Int)<=(↑i:Int)+(1:Int)/\(↑i:Int)+(1:Int)<=(9223372036854775807:Int)) (Jm (cut scP88 0) { tm:=[(2,dP 0 0),(5,dV 1),(14,dL es ext),(15,dI m),(16,dI ((↑i:Int)+(1:Int)))],ob:=[(0,oC [dS s]),(1,oR true 1 110 (row++[[dL q []]]))] }))))) (Jm (frg scP88 2) { tm:=[(2,dP 0 0),(5,dV 1)],ob:=[(0,oC [dS s]),(1,oR true 1 110 row)] }):Tr):=by kernel_rfl
theorem OpP2_eq (s:LU) (row:LD):goT Tryz.prog (ctr libT) 0 (finF false 0 rsP88) 2000 (frg scP88 2) { tm:=[(2,dP 0 0),(5,dV 1)],ob:=[(0,oC [dS s]),(1,oR true 1 110 row)] }=(Jm (frg scP88 3) { tm:=[(2,dP 0 0),(5,dV 1),(8,dP 2 0)],ob:=[(0,oC [dS s]),(1,oR true 1 110 row),(2,oC [D.map 3]),(3,Ob.gen (Gen.mapC [] []) [])] }:Tr):=by kernel_rfl
theorem OpPR_eq (s:LU) (row:LD) (ks vs:List D):goT Tryz.prog (ctr libT (QT.or rowsQ asmPan)) 0 (finF false 0 rsP88) 2000 (frg scP88 3) { tm:=[(2,dP 0 0),(5,dV 1),(8,dP 2 0)],ob:=[(0,oC [dS s]),(1,oR true 1 110 row),(2,oC [D.map 3]),(3,Ob.gen (Gen.mapC [] []) [])] }=(Ow True (Ow (CallL Tryz.prog (dF 139 [] [dP 0 0]) [D.yld 1] [(0,oC [dL row []]),(1,Ob.gen (Gen.loop LoopState.ready none #[29] (SC.reg [so 9 AOp.mv [xt 29]]) (SC.block 3 (SC.seq (SC.reg [so 31 (AOp.load false 1) [xt 2],so 32 AOp.mv [xt 9],SOp.cd (some 33) none (xc (dF 119 [] [])) [xt 31,xt 32],so 30 AOp.mv [xt 33],so 34 (AOp.extract 0) [xt 30],so 35 (AOp.extract 1) [xt 30],so 10 AOp.mv [xt 34],so 11 AOp.mv [xt 35]]) (SC.seq (SC.reg [so 36 AOp.mv [xt 11]]) (SC.cond (xt 36) (SC.seq (SC.reg [so 37 (AOp.load false 1) [xt 8],so 38 AOp.mv [xt 10],so 39 AOp.mv [xt 10],SOp.st none (SK.k (some IntKind.i64) (xt 38)) (xt 37) (xt 39)]) (SC.spec (Sp.pan [so 40 (AOp.load false 1) [xt 8],so 41 (AOp.ext Ext.lenm) [xt 40],SOp.cd (some 42) none (xc (dF 116 [] [])) [xt 41]]))) SC.skip)))) 56 [28,27,2,5,8]) [dF 139 [] [dP 0 0],dV 2,dP 3 0,dV 2,dP 4 0]),(2,oR true 1 110 row),(3,oC [dS s]),(4,oC [D.map 5]),(5,Ob.gen (Gen.mapC [] []) [])] fun r0 ob0=>r0=D.pan manyV/\ob0=[]) (Rt (D.pan manyV) [])):Tr):=by kernel_rfl
theorem FnPA_eq (s:LU) (es ext:LD):goT Tryz.prog (ctr libT) 0 (finF false 0 rsP89) 2000 [Fr.sc scP89] { tm:=envOf 0 ([]++[dS s,dL es ext]++[]),ob:=[] }=(Jm (frg scP89 0) { tm:=[(1,dL es ext),(2,dP 0 0),(4,dP 1 0)],ob:=[(0,oC [dS s]),(1,oC [D.nils])] }:Tr):=by kernel_rfl
theorem FnP0_eq (s:LU) (es ext:LD) (b:Bool):goT Tryz.prog (ctr libT (asmA (dB b) id)) 0 (finF false 0 rsP89) 2000 (frg scP89 0) { tm:=[(1,dL es ext),(2,dP 0 0),(4,dP 1 0)],ob:=[(0,oC [dS s]),(1,oC [D.nils])] }=(Ow (CF 121 [dL es ext,dF 122 [] []] [] fun r0 ob0=>r0=dB b/\ob0=[]) (brT b (Rt D.nils []) (Jm (frg scP89 1) { tm:=[(1,dL es ext),(2,dP 0 0),(4,dP 1 0)],ob:=[(0,oC [dS s]),(1,oC [D.nils])] })):Tr):=by kernel_rfl
theorem FnP1_eq (s:LU) (es ext:LD):goT Tryz.prog (ctr libT) 0 (finF false 0 rsP89) 2000 (frg scP89 1) { tm:=[(1,dL es ext),(2,dP 0 0),(4,dP 1 0)],ob:=[(0,oC [dS s]),(1,oC [D.nils])] }=(Jm (frg scP89 2) { tm:=[(1,dL es ext),(2,dP 0 0),(4,dP 1 0),(5,dI (1:Int))],ob:=[(0,oC [dS s]),(1,oC [D.nils])] }:Tr):=by kernel_rfl
theorem FnP2_eq (s:LU) (es ext:LD):goT Tryz.prog (ctr libT) 0 (finF false 0 rsP89) 2000 (frg scP89 2) { tm:=[(1,dL es ext),(2,dP 0 0),(4,dP 1 0),(5,dI (1:Int))],ob:=[(0,oC [dS s]),(1,oC [D.nils])] }=(Jm (cut scP89 0) { tm:=[(1,dL es ext),(2,dP 0 0),(4,dP 1 0),(5,dI (1:Int)),(11,dL es ext),(12,dI (↑(List.length es):Int)),(13,dI (0:Int))],ob:=[(0,oC [dS s]),(1,oC [D.nils])] }:Tr):=by kernel_rfl
theorem FnPL_eq (s:LU) (es ext:LD) (p m:Int) (i:Nat) (xs:LD):goT Tryz.prog (ctr libT limQ (eOne [dL xs []])) 0 (finF false 0 rsP89) 2000 (cut scP89 0) (hdFn s es ext p m (↑i:Int))=(brT (decide ((↑i:Int)<m)) (Ow ((0:Int)<=(↑i:Int)/\es[Int.toNat (↑i:Int)]? = some [dL xs []]) (Ow ((-9223372036854775808:Int)<=p*(↑(List.length xs):Int)/\p*(↑(List.length xs):Int)<=(9223372036854775807:Int)) (brT (decide ((1000:Int)<p*(↑(List.length xs):Int))) (Ow ((1000:Int)<p*(↑(List.length xs):Int)) (Rt (D.pan manyV) [])) (Ow (p*(↑(List.length xs):Int)<=(1000:Int)) (Ow ((-9223372036854775808:Int)<=(↑i:Int)+(1:Int)/\(↑i:Int)+(1:Int)<=(9223372036854775807:Int)) (Jm (cut scP89 0) { tm:=[(1,dL es ext),(2,dP 0 0),(4,dP 1 0),(5,dI (p*(↑(List.length xs):Int))),(11,dL es ext),(12,dI m),(13,dI ((↑i:Int)+(1:Int)))],ob:=[(0,oC [dS s]),(1,oC [D.nils])] })))))) (Jm (frg scP89 3) { tm:=[(1,dL es ext),(2,dP 0 0),(4,dP 1 0)],ob:=[(0,oC [dS s]),(1,oC [D.nils])] }):Tr):=by kernel_rfl
theorem XpPA_eq (k n:Int) (s:LU) (x:List D) (a:LD):goT Tryz.prog (ctr libT) 0 (finF false 0 rsP48) 2000 [Fr.sc scP48] { tm:=envOf 0 ([]++[dA (tC k n s (x::a))]++[]),ob:=[] }=(Jm (cut scP48 0) { tm:=[(1,dP 0 0),(3,dV 1),(14,dL (x::a) []),(15,dI (↑(List.length (x::a)):Int)),(16,dI (0:Int))],ob:=[(0,oC [dU k,dI n,dS s,dL (x::a) []]),(1,oR true 1 22 [])] }:Tr):=by kernel_rfl
def xpQ (b:Bool) (r:D):Nat->QT:=fun t=>if t=22 then asmJ b r id else asmPan
theorem xpQ_ok (l:List (Nat × D)) (b:Bool) (r:D) (E:Nat->Int->List D):(⟨(sCtr l).F,xpQ b r,E⟩:Ctr).OK Tryz.prog:=by
 refine⟨(sCtr_ok l).F,fun t=> ?_⟩
 show QT.OK (xpQ b r t)
 unfold xpQ
 split
 ·exact asmJ_ok _ _ _
 ·exact asmPan_ok
theorem XpPL_eq (k n:Int) (s:LU) (a row:LD) (m:Int) (i:Nat) (kx nx:Int) (sx:LU) (ax es us vs is js:LD) (b:Bool):goT Tryz.prog { F:=Ctr.F (sCtr [(33,dL is []),(37,dL js [])]),C:=xpQ b (dL es []),E:=xpE kx nx sx ax us vs } 0 (finF false 0 rsP48) 2000 (cut scP48 0) (hdEx k n s a row m (↑i:Int))=(brT (decide ((↑i:Int)<m)) (Ow ((0:Int)<=(↑i:Int)/\a[Int.toNat (↑i:Int)]? = some (tC kx nx sx ax)) (brT b (Ow (CF 48 [dA (tC kx nx sx ax)] [] fun r0 ob0=>r0=dL es []/\ob0=[]) (Ow (allLen 1 [[dL es []]]/\List.length row+1<=1073741824) (Ow ((-9223372036854775808:Int)<=(↑i:Int)+(1:Int)/\(↑i:Int)+(1:Int)<=(9223372036854775807:Int)) (Jm (cut scP48 0) { tm:=[(1,dP 0 0),(3,dV 1),(14,dL a []),(15,dI m),(16,dI ((↑i:Int)+(1:Int)))],ob:=[(0,oC (tC k n s a)),(1,oR true 1 22 (row++[[dL es []]]))] })))) (Ow (CF 48 [dA (tC kx nx sx ax)] [] fun r0 ob0=>r0=D.pan manyV/\ob0=[]) (Rt (D.pan manyV) [])))) (brT (decide (k=(6:Int))) (Ow ((0:Int)<=(0:Int)/\row[0]? = some [dL us []]) (Ow (FK 87 [dL us []] (dL is [])) (Ow ((0:Int)<=(1:Int)/\row[1]? = some [dL vs []]) (Ow (FK 87 [dL vs []] (dL js [])) (Ow (CF 86 [dL is [],dL js []] [] fun r0 ob0=>r0=D.pan manyV/\ob0=[]) (Rt (D.pan manyV) [])))))) (brT (decide (k=(5:Int))) (Ow (CF 88 [dS s,dL row []] [] fun r0 ob0=>r0=D.pan manyV/\ob0=[]) (Rt (D.pan manyV) [])) (Ow (CF 89 [dS s,dL row []] [] fun r0 ob0=>r0=D.pan manyV/\ob0=[]) (Rt (D.pan manyV) [])))):Tr):=by kernel_rfl
abbrev RP:D->Obs->Prop:=fun r _=>r= .pan manyV
theorem opN_at (s:LU) (L:List (List Tm)) (ext:LD) (hL:L.length<=1000) (hl: ∀ l∈L,l.length<=1000) (hz:1000<(opF s (prodL (L.map intsT))).length): ∀ (m i:Nat),L.length-i=m->i<=L.length →
  At Tryz.prog 0 (cut scP88 0) (hdOp s (partD L) ext (lisD ((L.take i).map intsT)) L.length i) (FinQ false 0 rsP88 RP):=by
 intro m
 induction m with
 | zero =>
  intro i hm hi
  refine At.tree (ctr_ok (asmP_ok _) qnone_ok) (OpPL_eq s (partD L) ext (lisD ((L.take i).map intsT)) [] L.length i []) ?_
  have e:L.take i=L:=List.take_of_length_le (by omega)
  rw[e]
  simp only[SS]
  refine⟨fun h=>by omega,fun _=> ?_⟩
  refine At.tree (ctr_ok libT_ok qnone_ok) (OpP2_eq s (lisD (L.map intsT))) ?_
  rw[ok_jmp]
  refine At.tree (ctr_ok libT_ok (QT.or_ok rowsQ_ok asmPan_ok)) (OpPR_eq s (lisD (L.map intsT)) [] []) ?_
  have hI: ∀ l∈L.map intsT,l.length<=1073741824:=by
   intro l h
   obtain⟨l',h',rfl⟩:=List.mem_map.1 h
   have:=hl l' h'
   have:=List.length_filterMap_le Tm.int? l'
   unfold intsT
   omega
  have hacc:(fillS (opB s) (L.map intsT) 0 (List.replicate (L.map intsT).length 0,[])).2=opF s (prodL (L.map intsT)):=by
   rw[(fillS_prod (opB s) _ 0 _ [] (by simp)).1]
   simp[opF]
  have hR:=rwsN_ok s (L.map intsT) (by simp; omega) hI (by rw[hacc]; exact hz)
  rw[ok_owe,ok_owe,ok_ret]
  exact⟨trivial,hR,rfl⟩
 | succ m ih =>
  intro i hm hi
  have h1:i<L.length:=by omega
  have e:lisD ((L.take i).map intsT)++[[.slice (intC .i64 (intsT L[i])) []]]=lisD ((L.take (i+1)).map intsT):=by
   rw[List.take_add_one,List.getElem?_eq_getElem h1]
   simp only[lisD,List.map_append,Option.toList_some,List.map_cons,List.map_nil]
  have hli:=hl _ (List.getElem_mem h1)
  refine At.tree (ctr_ok (asmP_ok _) qnone_ok) (OpPL_eq s (partD L) ext (lisD ((L.take i).map intsT)) (Tm.cellsL L[i]) L.length i (intC .i64 (intsT L[i]))) ?_
  simp only[SS,lisD_len,List.length_map,List.length_take]
  rw[e]
  exact⟨fun _=>⟨⟨by omega,partD_get h1⟩,int_ok [] L[i] (by omega),⟨by simp[allLen],by omega⟩,by omega,ih (i+1) (by omega) (by omega)⟩,fun h=>by omega⟩
theorem opN_ok (s:LU) (L:List (List Tm)) (hL:L.length<=1000) (hl: ∀ l∈L,l.length<=1000) (h:opX s L=none):CF 88 [.str s,.slice (partD L) []] [] fun r ob=>r= .pan manyV/\ob=[]:=by
 have hz:1000<(opF s (prodL (L.map intsT))).length:=by
  unfold opX at h
  split at h
  ·cases h
  ·omega
 refine CallL.pdrop (R:=RP) ?_ fun _ _ h=>h
 refine CallL.tree hdraw fpP88 (ctr_ok libT_ok qnone_ok) (OpPA_eq s (partD L) []) ?_
 rw[ok_jmp]
 refine At.tree (ctr_ok libT_ok qnone_ok) (OpP0_eq s (partD L) []) ?_
 rw[ok_jmp]
 refine At.tree (ctr_ok libT_ok qnone_ok) (OpP1_eq s (partD L) []) ?_
 rw[ok_jmp,partD_len]
 exact opN_at s L [] hL hl hz _ 0 rfl (Nat.zero_le _)
theorem fnN_at (s:LU) (L:List (List Tm)) (hL:L.length<=1000) (hl: ∀ l∈L,l≠[]/\l.length<=1000) (hz:1000<(prodL L).length): ∀ (m i:Nat),L.length-i=m->i<=L.length->prdL L i<=1000 →
  At Tryz.prog 0 (cut scP89 0) (hdFn s (partD L) [] (prdL L i) L.length i) (FinQ false 0 rsP89 RP):=by
 intro m
 induction m with
 | zero =>
  intro i hm hi hp
  have:prdL L i=(prodL L).length:=by
   unfold prdL
   rw[prodL_len,List.take_of_length_le (show L.length<=i by omega)]
  omega
 | succ m ih =>
  intro i hm hi hp
  have h1:i<L.length:=by omega
  have e:((prdL L (i+1):Nat):Int)=(prdL L i:Int)*(L[i].length:Int):=by rw[prdL_succ h1]; exact Int.natCast_mul _ _
  have hb:prdL L (i+1)<=1000*1000:=by
   rw[prdL_succ h1]
   exact Nat.mul_le_mul hp (hl _ (List.getElem_mem h1)).2
  refine At.tree (ctr_ok libT_ok limQ_ok) (FnPL_eq s (partD L) [] (prdL L i) L.length i (Tm.cellsL L[i])) ?_
  rw[cellsL_length,<- e]
  simp only[SS]
  exact⟨fun _=>⟨⟨by omega,partD_get h1⟩,by omega,fun h=>by omega,fun h=>⟨by omega,by omega,ih (i+1) (by omega) (by omega) (by omega)⟩⟩,fun h=>by omega⟩
theorem fnN_ok (s:LU) (L:List (List Tm)) (hL:L.length<=1000) (hl: ∀ l∈L,l.length<=1000) (h:fnX s L=none):CF 89 [.str s,.slice (partD L) []] [] fun r ob=>r= .pan manyV/\ob=[]:=by
 unfold fnX at h
 split at h
 ·cases h
 ·rename_i he
  split at h
  ·cases h
  ·rename_i hz
   have he:=Bool.eq_false_iff.2 he
   have hne: ∀ l∈L,l≠[]/\l.length<=1000:=fun l hx=>⟨fun e=>by
    have:=List.any_eq_false.1 he l hx
    rw[e] at this
    exact this rfl,hl l hx⟩
   refine CallL.pdrop (R:=RP) ?_ fun _ _ h=>h
   refine CallL.tree hdraw fpP89 (ctr_ok libT_ok qnone_ok) (FnPA_eq s (partD L) []) ?_
   rw[ok_jmp]
   refine At.tree (ctr_ok libT_ok (asmA_ok _ _)) (FnP0_eq s (partD L) [] (L.any List.isEmpty)) ?_
   rw[ok_owe,ok_br,ok_ret,ok_jmp]
   refine⟨ctE_ok [] L hL,fun h=>absurd h (by rw[he]; decide),fun _=> ?_⟩
   refine At.tree (ctr_ok libT_ok qnone_ok) (FnP1_eq s (partD L) []) ?_
   rw[ok_jmp]
   refine At.tree (ctr_ok libT_ok qnone_ok) (FnP2_eq s (partD L) []) ?_
   rw[ok_jmp,partD_len]
   exact fnN_at s L hL hne (by omega) _ 0 rfl (Nat.zero_le _) (by simp[prdL])
theorem xpL_app: ∀ {a b:List Tm} {p q:List (List Tm)},Tm.xpL a=some p->Tm.xpL b=some q->Tm.xpL (a++b)=some (p++q)
 | [],_,_,_,h,h'=>by cases h; exact h'
 | x::r,b,p,q,h,h'=>by
  rw[Tm.xpL] at h
  unfold consX at h
  split at h
  ·rename_i u v h1 h2
   cases h
   rw[List.cons_append,Tm.xpL,xpL_app h2 h',h1]
   rfl
  ·cases h
def ExpN (x:Tm):Prop:=CF 48 [.agg x.cells] [] fun r ob=>r= .pan manyV/\ob=[]
theorem pureE:pureF Tryz.prog 48=true:=by kernel_rfl
theorem xpN_at (k:Nat) (n:Int) (s:LU) (l:List Tm) (hl:l.length<=1000) (hs0:(Tm.mk k n s l).all Tm.shape=true) (hg0:(Tm.mk k n s l).all Tm.gr=true) (hw:Tm.fewL 1000 l) (HN: ∀ x∈l,x.xp=none->ExpN x): ∀ (m i:Nat) (ps:List (List Tm)),l.length-i=m->i<=l.length →
  Tm.xpL (l.take i)=some ps->(Tm.xpL (l.drop i)=none\/ ∃ qs,Tm.xpL (l.drop i)=some qs/\xpK k s (some (ps++qs))=none) →
  At Tryz.prog 0 (cut scP48 0) (hdEx k n s (Tm.cellsL l) (partD ps) l.length i) (FinQ false 0 rsP48 RP):=by
 have e6:((k:Int)=6)=(k=6):=propext (by omega)
 have e5:((k:Int)=5)=(k=5):=propext (by omega)
 have hs:=all_split.1 hs0
 have hg:=all_split.1 hg0
 intro m
 induction m with
 | zero =>
  intro i ps hm hi hps hn
  rw[List.take_of_length_le (show l.length<=i by omega)] at hps
  rw[List.drop_eq_nil_of_le (by omega)] at hn
  have hx:xpK k s (some ps)=none:=by
   rcases hn with hn | ⟨qs,h1,h2⟩
   ·cases hn
   ·cases h1; rwa [List.append_nil] at h2
  have hlen:=xpL_len hps
  have hp: ∀ p∈ps,p.length<=1000:=fun p hp=>(xpL_mem hps hp).elim fun x hx=>xp_len hx.2
  have hfit: ∀ i, ∀ c∈intsT (ps.getD i []),fitsB c=true:=fun i c hc=>by
   obtain⟨x,hx,hxi⟩:=intsT_mem.1 hc
   rw[List.getD_eq_getElem?_getD] at hx
   cases hq:ps[i]? with
   | none=>rw[hq] at hx; cases hx
   | some p =>
    rw[hq] at hx
    obtain⟨y,hy,hye⟩:=xpL_mem hps (List.mem_of_getElem? hq)
    exact int_shape (xp_value y p x (hs.2 y hy) (hg.2 y hy) hye hx).2.1 hxi
  have gl: ∀ i,(ps.getD i []).length<=1000:=fun i=>by
   rw[List.getD_eq_getElem?_getD]
   cases hq:ps[i]? with
   | none=>simp
   | some p=>exact hp p (List.mem_of_getElem? hq)
  have hil: ∀ i,(intsT (ps.getD i [])).length<=1000:=fun i=>Nat.le_trans (intsT_le _) (gl i)
  refine At.tree (xpQ_ok _ _ _ _) (XpPL_eq k n s (Tm.cellsL l) (partD ps) l.length i 0 0 [] [] [] (Tm.cellsL (ps.getD 0 [])) (Tm.cellsL (ps.getD 1 [])) (intC .i64 (intsT (ps.getD 0 []))) (intC .i64 (intsT (ps.getD 1 []))) true) ?_
  simp only[xpK] at hx
  simp only[SS,e6,e5]
  refine⟨fun h=>by omega,fun _=>⟨fun h6=> ?_,fun h6=>⟨fun h5=> ?_,fun h5=> ?_⟩⟩⟩
  ·subst h6
   rw[if_pos rfl] at hx
   have hv:ivl (intsT (ps.getD 0 [])) (intsT (ps.getD 1 []))=none:=by
    cases hv:ivl (intsT (ps.getD 0 [])) (intsT (ps.getD 1 [])) with
    | none=>rfl
    | some q=>rw[hv] at hx; cases hx
   have h2:=shape_six hs.1
   exact⟨partD_getD (by omega),ints_ok _ (gl 0),⟨by decide,partD_getD (by omega)⟩,ints_ok _ (gl 1),ivN_ok _ _ (hil 0) (hil 1) (hfit 0) (hfit 1) hv⟩
  ·subst h5
   rw[if_neg (by decide),if_pos rfl] at hx
   exact opN_ok s ps (by omega) hp hx
  ·rw[if_neg h6,if_neg h5] at hx
   exact fnN_ok s ps (by omega) hp hx
 | succ m ih =>
  intro i ps hm hi hps hn
  have h1:i<l.length:=by omega
  have hx:=cellsL_get h1
  have hm0:l[i]∈l:=List.getElem_mem h1
  have hlen:=xpL_len hps
  rw[List.length_take] at hlen
  rw[drop_cons h1,Tm.xpL] at hn
  cases hq:l[i].xp with
  | none =>
   have hC:=HN _ hm0 hq
   unfold ExpN at hC
   generalize l[i]=x at hx hC
   obtain⟨kx,nx,sx,ax⟩:=x
   refine At.tree (xpQ_ok _ _ _ _) (XpPL_eq k n s (Tm.cellsL l) (partD ps) l.length i kx nx sx (Tm.cellsL ax) [] [] [] [] [] false) ?_
   simp only[SS]
   exact⟨fun _=>⟨⟨by omega,hx⟩,fun h=>(Bool.noConfusion h),hC⟩,fun h=>by omega⟩
  | some p =>
   have hC:=FnOK.callS pureE (expg_ok l[i] p (fewL_all.1 hw _ hm0) (hs.2 _ hm0) (hg.2 _ hm0) hq)
   have ht:Tm.xpL (l.take (i+1))=some (ps++[p]):=by
    rw[List.take_add_one,List.getElem?_eq_getElem h1,Option.toList_some]
    exact xpL_app hps (by rw[Tm.xpL,hq]; rfl)
   have hI:=ih (i+1) (ps++[p]) (by omega) (by omega) ht (by
    rw[hq] at hn
    cases hr:Tm.xpL (l.drop (i+1)) with
    | none=>exact .inl rfl
    | some qs =>
     rw[hr] at hn
     rcases hn with hn | ⟨q2,h2,h3⟩
     ·cases hn
     ·cases h2
      exact .inr ⟨qs,rfl,by rw[List.append_assoc]; exact h3⟩)
   have e:partD (ps++[p])=partD ps++[[.slice (Tm.cellsL p) []]]:=by simp[partD]
   rw[e] at hI
   generalize l[i]=x at hx hC
   obtain⟨kx,nx,sx,ax⟩:=x
   refine At.tree (xpQ_ok _ _ _ _) (XpPL_eq k n s (Tm.cellsL l) (partD ps) l.length i kx nx sx (Tm.cellsL ax) (Tm.cellsL p) [] [] [] [] true) ?_
   simp only[SS,partD_len]
   exact⟨fun _=>⟨⟨by omega,hx⟩,⟨hC,⟨by simp[allLen],by omega⟩,by omega,hI⟩,fun h=>(Bool.noConfusion h)⟩,fun h=>by omega⟩
theorem expn_ok: ∀ (x:Tm),x.few 1000->x.all Tm.shape=true->x.all Tm.gr=true->x.xp=none->ExpN x
 | .mk k n s l,hx,hs0,hg0,h=>by
  have hs:=all_split.1 hs0
  have hg:=all_split.1 hg0
  simp only[Tm.few] at hx
  obtain⟨hl,hw⟩:=hx
  have HN: ∀ x∈l,x.xp=none->ExpN x:=fun x hm h=>expn_ok x (fewL_all.1 hw _ hm) (hs.2 _ hm) (hg.2 _ hm) h
  rw[Tm.xp] at h
  split at h
  ·cases h
  ·rename_i he
   have he:l≠[]:=fun e=>he (by rw[e]; rfl)
   have hA:=xpN_at k n s l hl hs0 hg0 hw HN _ 0 [] rfl (Nat.zero_le _) rfl (by
    rw[List.drop_zero]
    cases hq:Tm.xpL l with
    | none=>exact .inl rfl
    | some qs=>rw[hq] at h; exact .inr ⟨qs,rfl,h⟩)
   clear HN hs hg hs0 hg0 h hw
   unfold ExpN
   refine CallL.pdrop (R:=RP) ?_ fun _ _ h=>h
   cases l with
   | nil=>exact absurd rfl he
   | cons x r =>
    refine CallL.tree hdraw fpP48 (ctr_ok libT_ok qnone_ok) (XpPA_eq k n s x.cells (Tm.cellsL r)) ?_
    rw[ok_jmp]
    have e:(x.cells::Tm.cellsL r).length=(x::r).length:=by simp[cellsL_length]
    rw[e]
    exact hA
termination_by x=>SizeOf.sizeOf x
decreasing_by
 have:=List.sizeOf_lt_of_mem hm
 simp only[Tm.mk.sizeOf_spec]
 omega
end Go.Proofs.YtobgkdlghljdlaaGreatDoor
