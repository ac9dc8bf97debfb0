/- Too many: limited,interval,the rows of lists of numbers. -/
import Derived.Test.YtfoklncmfoogcaaGreatDoorArXpB
import Derived.Test.YtfoklncmfoogcaaGreatDoorTextP
import Derived.Test.YtfoklncmfoogcaaGreatDoorSx10
set_option linter.unusedSectionVars false
set_option linter.unusedVariables false
set_option linter.unusedSimpArgs false
set_option linter.deprecated false
set_option maxRecDepth 100000
namespace Go.Proofs.YtfoklncmfoogcaaGreatDoor
open Go.Sx
abbrev manyV:Value:= .iface 59 (.agg #[])
def asmPan:QT:=fun d xs ob=>some (.ok (CallL Tryz.prog d xs ob fun r0 ob0=>r0= .pan manyV/\ob0=[]) (.pan manyV) [])
theorem asmPan_ok:asmPan.OK:=by intro d xs ob rt h; cases h; exact fun hp=>hp
def asmJ (b:Bool) (r:D) (g:Obs->Obs):QT:=fun d xs ob=>some (.br b (.ok (CallL Tryz.prog d xs ob fun r0 ob0=>r0=r/\ob0=g ob) r (g ob)) (.ok (CallL Tryz.prog d xs ob fun r0 ob0=>r0= .pan manyV/\ob0=[]) (.pan manyV) []))
theorem asmJ_ok (b:Bool) (r:D) (g:Obs->Obs):(asmJ b r g).OK:=by
 intro d xs ob rt h
 cases h
 cases b
 ·exact fun hp=>hp
 ·exact fun hp=>hp
noncomputable def PLiP (n:Int):Tr:=brT (decide ((1000:Int)<n)) (Tr.ret (D.pan (Value.iface 59 (Value.agg #[]))) []) (Tr.ret (D.int .i64 n) [])
theorem PLiP_eq (n:Int):goT Tryz.prog (ctr libT) 0 (finF false 0 rsP81) 2000 [Fr.sc scP81] { tm:=envOf 0 ([]++[D.int .i64 n]++[]),ob:=[] }=PLiP n:=by kernel_rfl
theorem limC_ok (n:Int) (h:n<=1000):CallL Tryz.prog (.func (.func 81) [] []) [.int .i64 n] [] fun r ob=>r= .int .i64 n/\ob=[]:=by
 refine CallL.tree hdraw fpP81 (ctr_ok libT_ok qnone_ok) (PLiP_eq n) ?_
 unfold PLiP
 simp only[SS]
 exact⟨fun h=>by omega,fun _=>trivial⟩
theorem limN_ok (n:Int) (h:1000<n):CallL Tryz.prog (.func (.func 81) [] []) [.int .i64 n] [] fun r ob=>r= .pan manyV/\ob=[]:=by
 refine CallL.tree hdraw fpP81 (ctr_ok libT_ok qnone_ok) (PLiP_eq n) ?_
 unfold PLiP
 simp only[SS]
 exact⟨fun h=>trivial,fun _=>by omega⟩
def limQ:QT:=fun d xs ob=>match d,xs,ob with
 | .func (.func f) [] [],[.int .i64 n],[]=>if f=81 then some (.br (decide (1000<n)) (.ok (1000<n) (.pan manyV) []) (.ok (n<=1000) (.int .i64 n) [])) else none
 | _,_,_=>none
theorem limQ_ok:limQ.OK:=by
 intro d xs ob rt h
 unfold limQ at h
 split at h
 ·split at h
  ·rename_i n hf
   subst hf
   cases h
   by_cases hn:1000<n
   ·simp only[hn,decide_true]; exact fun _=>limN_ok _ hn
   ·simp only[hn,decide_false]; exact fun _=>limC_ok _ (by omega)
  ·cases h
 ·cases h
noncomputable def PIvP (es fs:List (List D)) (a b:Int):Tr:=brT (decide ((↑(List.length es):Int)=(0:Int))) (Tr.ret (D.vec 0) [(0,Ob.arr true 4 33 [])]) (brT (decide ((↑(List.length fs):Int)=(0:Int))) (Tr.ret (D.vec 0) [(0,Ob.arr true 4 33 [])]) (Tr.owe (FnOK Tryz.prog 79 [D.slice es []] (D.int .i64 a)) (Tr.owe (FnOK Tryz.prog 80 [D.slice fs []] (D.int .i64 b)) (Tr.owe ((-9223372036854775808:Int)<=b-a/\b-a<=(9223372036854775807:Int)) (Tr.owe ((-9223372036854775808:Int)<=b-a+(1:Int)/\b-a+(1:Int)<=(9223372036854775807:Int)) (brT (decide ((1000:Int)<b-a+(1:Int))) (Tr.owe ((1000:Int)<b-a+(1:Int)) (Tr.ret (D.pan manyV) [])) (Tr.owe (b-a+(1:Int)<=(1000:Int)) (Tr.jmp (cut scP60 0) { tm:=[(4,D.vec 0),(6,D.int .i64 b),(7,D.int .i64 a)],ob:=[(0,Ob.arr true 4 33 [])] }))))))))
theorem PIvP_eq (es fs:List (List D)) (a b:Int):goT Tryz.prog { F:=fun t=>if t=17 then asmP (D.int .i64 a) else asmP (D.int .i64 b),C:=fun x=>limQ,E:=noE } 0 (finF false 0 rsP60) 2000 [Fr.sc scP60] { tm:=envOf 0 ([]++[D.slice es [],D.slice fs []]++[]),ob:=[] }=PIvP es fs a b:=by kernel_rfl
def recOpP (st:LoopState) (pend:Option Code) (ds:List D):Ob:= .gen (.loop st pend #[29] (scP62.rngA 0) (scP62.rngB 0) 56 keysOp) ds
def obOP (s:List UInt8) (es:List (List D)) (ks vs:List D):Obs:=[(0,.cells [.slice es []]),(1,recOpP .ready none (dsOp 0 2 3 4)),(2,.arr true 1 22 es),(3,.cells [.str s]),(4,.cells [.map 5]),(5,.gen (.mapC ks vs) [])]
def obFP (s:List UInt8) (es row:List (List D)) (ks vs:List D):Obs:=[(0,.cells [.slice es []]),(1,.cells [.yld 4]),(2,.cells [.vec 5]),(3,.cells [.func (.func 101) [] [.ptr 0 0,.ptr 1 0,.ptr 2 0,.ptr 3 0]]),
 (4,.gen (.loop .ready none #[29] (scP62.rngA 0) (scP62.rngB 0) 56 [28,27,2,5,8]) [.func (.func 100) [] [.ptr 0 0],.vec 6,.ptr 7 0,.vec 6,.ptr 8 0]),(5,.arr false 1 3 row),(6,.arr true 1 22 es),(7,.cells [.str s]),(8,.cells [.map 9]),(9,.gen (.mapC ks vs) [])]
noncomputable def CR1P (s:List UInt8) (es:List (List D)) (ks vs:List D) (b:Bool) (row':List (List D)) (ks' vs':List D):Tr:=Tr.owe ((0:Int)<=(↑(List.length es):Int)/\(↑(List.length es):Int)*(8:Int)<=(281474976710656:Int)/\(↑(List.length es):Int)<=(1073741824:Int)) (brT b (Tr.owe (CallL Tryz.prog (D.func (Fn.func 101) [] [D.ptr 0 0,D.ptr 1 0,D.ptr 2 0,D.ptr 3 0]) [D.int .i64 (0:Int)] [(0,Ob.cells [D.slice es []]),(1,Ob.cells [D.yld 4]),(2,Ob.cells [D.vec 5]),(3,Ob.cells [D.func (Fn.func 101) [] [D.ptr 0 0,D.ptr 1 0,D.ptr 2 0,D.ptr 3 0]]),(4,Ob.gen (Gen.loop LoopState.ready none #[29] (SC.rngA scP62 0) (SC.rngB scP62 0) 56 [28,27,2,5,8]) [D.func (Fn.func 100) [] [D.ptr 0 0],D.vec 6,D.ptr 7 0,D.vec 6,D.ptr 8 0]),(5,Ob.arr false 1 3 (List.replicate (Int.toNat (↑(List.length es):Int)) [D.int .i64 (0:Int)])),(6,Ob.arr true 1 22 es),(7,Ob.cells [D.str s]),(8,Ob.cells [D.map 9]),(9,Ob.gen (Gen.mapC ks vs) [])] fun r0 ob0=>r0=D.bool true/\ob0=[(0,Ob.cells [D.slice es []]),(1,Ob.cells [D.yld 4]),(2,Ob.cells [D.vec 5]),(3,Ob.cells [D.func (Fn.func 101) [] [D.ptr 0 0,D.ptr 1 0,D.ptr 2 0,D.ptr 3 0]]),(4,Ob.gen (Gen.loop LoopState.ready none #[29] (SC.rngA scP62 0) (SC.rngB scP62 0) 56 [28,27,2,5,8]) [D.func (Fn.func 100) [] [D.ptr 0 0],D.vec 6,D.ptr 7 0,D.vec 6,D.ptr 8 0]),(5,Ob.arr false 1 3 row'),(6,Ob.arr true 1 22 es),(7,Ob.cells [D.str s]),(8,Ob.cells [D.map 9]),(9,Ob.gen (Gen.mapC ks' vs') [])]) (Tr.ret (D.tuple []) [(0,Ob.cells [D.slice es []]),(1,Ob.gen (Gen.loop LoopState.ready none #[29] (SC.rngA scP62 0) (SC.rngB scP62 0) 56 [28,27,2,5,8]) [D.func (Fn.func 100) [] [D.ptr 0 0],D.vec 2,D.ptr 3 0,D.vec 2,D.ptr 4 0]),(2,Ob.arr true 1 22 es),(3,Ob.cells [D.str s]),(4,Ob.cells [D.map 5]),(5,Ob.gen (Gen.mapC ks' vs') [])])) (Tr.owe (CallL Tryz.prog (D.func (Fn.func 101) [] [D.ptr 0 0,D.ptr 1 0,D.ptr 2 0,D.ptr 3 0]) [D.int .i64 (0:Int)] [(0,Ob.cells [D.slice es []]),(1,Ob.cells [D.yld 4]),(2,Ob.cells [D.vec 5]),(3,Ob.cells [D.func (Fn.func 101) [] [D.ptr 0 0,D.ptr 1 0,D.ptr 2 0,D.ptr 3 0]]),(4,Ob.gen (Gen.loop LoopState.ready none #[29] (SC.rngA scP62 0) (SC.rngB scP62 0) 56 [28,27,2,5,8]) [D.func (Fn.func 100) [] [D.ptr 0 0],D.vec 6,D.ptr 7 0,D.vec 6,D.ptr 8 0]),(5,Ob.arr false 1 3 (List.replicate (Int.toNat (↑(List.length es):Int)) [D.int .i64 (0:Int)])),(6,Ob.arr true 1 22 es),(7,Ob.cells [D.str s]),(8,Ob.cells [D.map 9]),(9,Ob.gen (Gen.mapC ks vs) [])] fun r0 ob0=>r0=D.pan manyV/\ob0=[]) (Tr.ret (D.pan manyV) [])))
theorem CR1P_eq (s:List UInt8) (es:List (List D)) (ks vs:List D) (b:Bool) (row':List (List D)) (ks' vs':List D):goT Tryz.prog (ctr libT (asmJ b (D.bool true) (updO row' ks' vs'))) 6 (finF false 6 rsP100) 2000 [Fr.sc scP100] { tm:=envOf 0 ([]++[D.yld 1]++[D.ptr 0 0]),ob:=obOP s es ks vs }=CR1P s es ks vs b row' ks' vs':=by kernel_rfl
noncomputable def CFlP (s:List UInt8) (es row xs row':List (List D)) (ks vs ks' vs':List D) (k:Int) (b:Bool):Tr:=brT (decide (k=(↑(List.length es):Int))) (brT b (Tr.owe (CallL Tryz.prog (D.yld 0) [D.vec 1] [(0,Ob.gen (Gen.loop LoopState.ready none #[29] (SC.rngA scP62 0) (SC.rngB scP62 0) 56 [28,27,2,5,8]) [D.func (Fn.func 100) [] [D.ptr 2 0],D.vec 3,D.ptr 4 0,D.vec 3,D.ptr 5 0]),(1,Ob.arr false 1 3 row),(2,Ob.cells [D.slice es []]),(3,Ob.arr true 1 22 es),(4,Ob.cells [D.str s]),(5,Ob.cells [D.map 6]),(6,Ob.gen (Gen.mapC ks vs) [])] fun r0 ob0=>r0=D.bool true/\ob0=[(0,Ob.gen (Gen.loop LoopState.ready none #[29] (SC.rngA scP62 0) (SC.rngB scP62 0) 56 [28,27,2,5,8]) [D.func (Fn.func 100) [] [D.ptr 2 0],D.vec 3,D.ptr 4 0,D.vec 3,D.ptr 5 0]),(1,Ob.arr false 1 3 row'),(2,Ob.cells [D.slice es []]),(3,Ob.arr true 1 22 es),(4,Ob.cells [D.str s]),(5,Ob.cells [D.map 6]),(6,Ob.gen (Gen.mapC ks' vs') [])]) (Tr.ret (D.bool true) [(0,Ob.cells [D.slice es []]),(1,Ob.cells [D.yld 4]),(2,Ob.cells [D.vec 5]),(3,Ob.cells [D.func (Fn.func 101) [] [D.ptr 0 0,D.ptr 1 0,D.ptr 2 0,D.ptr 3 0]]),(4,Ob.gen (Gen.loop LoopState.ready none #[29] (SC.rngA scP62 0) (SC.rngB scP62 0) 56 [28,27,2,5,8]) [D.func (Fn.func 100) [] [D.ptr 0 0],D.vec 6,D.ptr 7 0,D.vec 6,D.ptr 8 0]),(5,Ob.arr false 1 3 row'),(6,Ob.arr true 1 22 es),(7,Ob.cells [D.str s]),(8,Ob.cells [D.map 9]),(9,Ob.gen (Gen.mapC ks' vs') [])])) (Tr.owe (CallL Tryz.prog (D.yld 0) [D.vec 1] [(0,Ob.gen (Gen.loop LoopState.ready none #[29] (SC.rngA scP62 0) (SC.rngB scP62 0) 56 [28,27,2,5,8]) [D.func (Fn.func 100) [] [D.ptr 2 0],D.vec 3,D.ptr 4 0,D.vec 3,D.ptr 5 0]),(1,Ob.arr false 1 3 row),(2,Ob.cells [D.slice es []]),(3,Ob.arr true 1 22 es),(4,Ob.cells [D.str s]),(5,Ob.cells [D.map 6]),(6,Ob.gen (Gen.mapC ks vs) [])] fun r0 ob0=>r0=D.pan manyV/\ob0=[]) (Tr.ret (D.pan manyV) [(1,Ob.cells [D.yld 4]),(2,Ob.cells [D.vec 5]),(3,Ob.cells [D.func (Fn.func 101) [] [D.ptr 0 0,D.ptr 1 0,D.ptr 2 0,D.ptr 3 0]])]))) (Tr.owe ((0:Int)<=k/\es[Int.toNat k]? = some [D.slice xs []]) (Tr.jmp (cut scP101 0) { tm:=[(0,D.int .i64 k),(3,D.ptr 2 0),(4,D.ptr 3 0),(19,D.slice xs []),(20,D.int .i64 (↑(List.length xs):Int)),(21,D.int .i64 (0:Int))],ob:=[(0,Ob.cells [D.slice es []]),(1,Ob.cells [D.yld 4]),(2,Ob.cells [D.vec 5]),(3,Ob.cells [D.func (Fn.func 101) [] [D.ptr 0 0,D.ptr 1 0,D.ptr 2 0,D.ptr 3 0]]),(4,Ob.gen (Gen.loop LoopState.ready none #[29] (SC.rngA scP62 0) (SC.rngB scP62 0) 56 [28,27,2,5,8]) [D.func (Fn.func 100) [] [D.ptr 0 0],D.vec 6,D.ptr 7 0,D.vec 6,D.ptr 8 0]),(5,Ob.arr false 1 3 row),(6,Ob.arr true 1 22 es),(7,Ob.cells [D.str s]),(8,Ob.cells [D.map 9]),(9,Ob.gen (Gen.mapC ks vs) [])] }))
theorem CFlP_eq (s:List UInt8) (es row xs row':List (List D)) (ks vs ks' vs':List D) (k:Int) (b:Bool):goT Tryz.prog (ctr libT (asmJ b (D.bool true) (updO row' ks' vs')) (eOne [D.slice xs []])) 10 (finF false 10 rsP101) 2000 [Fr.sc scP101] { tm:=envOf 0 ([]++[D.int .i64 k]++[D.ptr 0 0,D.ptr 1 0,D.ptr 2 0,D.ptr 3 0]),ob:=obFP s es row ks vs }=CFlP s es row xs row' ks vs ks' vs' k b:=by kernel_rfl
noncomputable def CFl2P (s:List UInt8) (es row xs row':List (List D)) (ks vs ks' vs':List D) (k m:Int) (i:Nat) (x:Int) (b:Bool):Tr:=brT (decide ((↑i:Int)<m)) (Tr.owe ((0:Int)<=(↑i:Int)/\xs[Int.toNat (↑i:Int)]? = some [D.int .i64 x]) (Tr.owe ((0:Int)<=k/\k<(↑(List.length row):Int)) (Tr.owe (Int.toNat k<List.length row) (Tr.owe ((-9223372036854775808:Int)<=k+(1:Int)/\k+(1:Int)<=(9223372036854775807:Int)) (brT b (Tr.owe (CallL Tryz.prog (D.func (Fn.func 101) [] [D.ptr 0 0,D.ptr 1 0,D.ptr 2 0,D.ptr 3 0]) [D.int .i64 (k+(1:Int))] [(0,Ob.cells [D.slice es []]),(1,Ob.cells [D.yld 4]),(2,Ob.cells [D.vec 5]),(3,Ob.cells [D.func (Fn.func 101) [] [D.ptr 0 0,D.ptr 1 0,D.ptr 2 0,D.ptr 3 0]]),(4,Ob.gen (Gen.loop LoopState.ready none #[29] (SC.rngA scP62 0) (SC.rngB scP62 0) 56 [28,27,2,5,8]) [D.func (Fn.func 100) [] [D.ptr 0 0],D.vec 6,D.ptr 7 0,D.vec 6,D.ptr 8 0]),(5,Ob.arr false 1 3 (List.set row (Int.toNat k) [D.int .i64 x])),(6,Ob.arr true 1 22 es),(7,Ob.cells [D.str s]),(8,Ob.cells [D.map 9]),(9,Ob.gen (Gen.mapC ks vs) [])] fun r0 ob0=>r0=D.bool true/\ob0=[(0,Ob.cells [D.slice es []]),(1,Ob.cells [D.yld 4]),(2,Ob.cells [D.vec 5]),(3,Ob.cells [D.func (Fn.func 101) [] [D.ptr 0 0,D.ptr 1 0,D.ptr 2 0,D.ptr 3 0]]),(4,Ob.gen (Gen.loop LoopState.ready none #[29] (SC.rngA scP62 0) (SC.rngB scP62 0) 56 [28,27,2,5,8]) [D.func (Fn.func 100) [] [D.ptr 0 0],D.vec 6,D.ptr 7 0,D.vec 6,D.ptr 8 0]),(5,Ob.arr false 1 3 row'),(6,Ob.arr true 1 22 es),(7,Ob.cells [D.str s]),(8,Ob.cells [D.map 9]),(9,Ob.gen (Gen.mapC ks' vs') [])]) (Tr.owe ((-9223372036854775808:Int)<=(↑i:Int)+(1:Int)/\(↑i:Int)+(1:Int)<=(9223372036854775807:Int)) (Tr.jmp (cut scP101 0) { tm:=[(0,D.int .i64 k),(3,D.ptr 2 0),(4,D.ptr 3 0),(19,D.slice xs []),(20,D.int .i64 m),(21,D.int .i64 ((↑i:Int)+(1:Int)))],ob:=[(0,Ob.cells [D.slice es []]),(1,Ob.cells [D.yld 4]),(2,Ob.cells [D.vec 5]),(3,Ob.cells [D.func (Fn.func 101) [] [D.ptr 0 0,D.ptr 1 0,D.ptr 2 0,D.ptr 3 0]]),(4,Ob.gen (Gen.loop LoopState.ready none #[29] (SC.rngA scP62 0) (SC.rngB scP62 0) 56 [28,27,2,5,8]) [D.func (Fn.func 100) [] [D.ptr 0 0],D.vec 6,D.ptr 7 0,D.vec 6,D.ptr 8 0]),(5,Ob.arr false 1 3 row'),(6,Ob.arr true 1 22 es),(7,Ob.cells [D.str s]),(8,Ob.cells [D.map 9]),(9,Ob.gen (Gen.mapC ks' vs') [])] }))) (Tr.owe (CallL Tryz.prog (D.func (Fn.func 101) [] [D.ptr 0 0,D.ptr 1 0,D.ptr 2 0,D.ptr 3 0]) [D.int .i64 (k+(1:Int))] [(0,Ob.cells [D.slice es []]),(1,Ob.cells [D.yld 4]),(2,Ob.cells [D.vec 5]),(3,Ob.cells [D.func (Fn.func 101) [] [D.ptr 0 0,D.ptr 1 0,D.ptr 2 0,D.ptr 3 0]]),(4,Ob.gen (Gen.loop LoopState.ready none #[29] (SC.rngA scP62 0) (SC.rngB scP62 0) 56 [28,27,2,5,8]) [D.func (Fn.func 100) [] [D.ptr 0 0],D.vec 6,D.ptr 7 0,D.vec 6,D.ptr 8 0]),(5,Ob.arr false 1 3 (List.set row (Int.toNat k) [D.int .i64 x])),(6,Ob.arr true 1 22 es),(7,Ob.cells [D.str s]),(8,Ob.cells [D.map 9]),(9,Ob.gen (Gen.mapC ks vs) [])] fun r0 ob0=>r0=D.pan manyV/\ob0=[]) (Tr.ret (D.pan manyV) []))))))) (Tr.ret (D.bool true) [(0,Ob.cells [D.slice es []]),(1,Ob.cells [D.yld 4]),(2,Ob.cells [D.vec 5]),(3,Ob.cells [D.func (Fn.func 101) [] [D.ptr 0 0,D.ptr 1 0,D.ptr 2 0,D.ptr 3 0]]),(4,Ob.gen (Gen.loop LoopState.ready none #[29] (SC.rngA scP62 0) (SC.rngB scP62 0) 56 [28,27,2,5,8]) [D.func (Fn.func 100) [] [D.ptr 0 0],D.vec 6,D.ptr 7 0,D.vec 6,D.ptr 8 0]),(5,Ob.arr false 1 3 row),(6,Ob.arr true 1 22 es),(7,Ob.cells [D.str s]),(8,Ob.cells [D.map 9]),(9,Ob.gen (Gen.mapC ks vs) [])])
theorem CFl2P_eq (s:List UInt8) (es row xs row':List (List D)) (ks vs ks' vs':List D) (k m:Int) (i:Nat) (x:Int) (b:Bool):goT Tryz.prog (ctr libT (asmJ b (D.bool true) (updO row' ks' vs')) (eOne [D.int .i64 x])) 10 (finF false 10 rsP101) 2000 (cut scP101 0) (hdF k m (↑i:Int) xs (obFP s es row ks vs))=CFl2P s es row xs row' ks vs ks' vs' k m i x b:=by kernel_rfl
noncomputable def TyOP (s:List UInt8) (es row:List (List D)) (ks vs ks' vs':List D) (b:Bool) (n m:Int):Tr:=Tr.owe (CallL Tryz.prog (D.func (Fn.func 10) [] []) [D.str s,D.vec 0] [(0,Ob.arr false 1 3 row)] fun r0 ob0=>r0=D.tuple [D.int .i64 n,D.bool b]/\ob0=[(0,Ob.arr false 1 3 row)]) (brT b (Tr.owe (mput (D.int .i64 n) (D.int .i64 n) ks vs=some (ks',vs')) (Tr.owe (some (D.int .i64 (↑(List.length ks'):Int))=some (D.int .i64 m)) (brT (decide ((1000:Int)<m)) (Tr.owe ((1000:Int)<m) (Tr.ret (D.pan manyV) [(0,Ob.gen (Gen.loop LoopState.busy none #[29] (SC.rngA scP62 0) (SC.rngB scP62 0) 56 [28,27,2,5,8]) [D.func (Fn.func 100) [] [D.ptr 2 0],D.vec 3,D.ptr 4 0,D.vec 3,D.ptr 5 0]),(1,Ob.arr false 1 3 row),(2,Ob.cells [D.slice es []]),(3,Ob.arr true 1 22 es),(4,Ob.cells [D.str s]),(5,Ob.cells [D.map 6]),(6,Ob.gen (Gen.mapC ks' vs') [])])) (Tr.owe (m<=(1000:Int)) (Tr.ret (D.bool true) [(0,Ob.gen (Gen.loop LoopState.ready none #[29] (SC.rngA scP62 0) (SC.rngB scP62 0) 56 [28,27,2,5,8]) [D.func (Fn.func 100) [] [D.ptr 2 0],D.vec 3,D.ptr 4 0,D.vec 3,D.ptr 5 0]),(1,Ob.arr false 1 3 row),(2,Ob.cells [D.slice es []]),(3,Ob.arr true 1 22 es),(4,Ob.cells [D.str s]),(5,Ob.cells [D.map 6]),(6,Ob.gen (Gen.mapC ks' vs') [])]))))) (Tr.ret (D.bool true) [(0,Ob.gen (Gen.loop LoopState.ready none #[29] (SC.rngA scP62 0) (SC.rngB scP62 0) 56 [28,27,2,5,8]) [D.func (Fn.func 100) [] [D.ptr 2 0],D.vec 3,D.ptr 4 0,D.vec 3,D.ptr 5 0]),(1,Ob.arr false 1 3 row),(2,Ob.cells [D.slice es []]),(3,Ob.arr true 1 22 es),(4,Ob.cells [D.str s]),(5,Ob.cells [D.map 6]),(6,Ob.gen (Gen.mapC ks vs) [])]))
theorem TyOP_eq (s:List UInt8) (es row:List (List D)) (ks vs ks' vs':List D) (b:Bool) (n m:Int):yldTJ Tryz.prog (ctr limP (QT.or limQ (asmA (D.tuple [D.int .i64 n,D.bool b]) id)) (eMap ks' vs' (D.int .i64 m))) 7 0 56 #[29] (SC.rngA scP62 0) (SC.rngB scP62 0) keysOp (dsOp 2 3 4 5) 2000 { tm:=putP (List.zip [29] [D.vec 1]) (List.zip keysOp (dsOp 2 3 4 5)),ob:=obY s es row ks vs }=TyOP s es row ks vs ks' vs' b n m:=by kernel_rfl
theorem ivP_ok (a b:Int):(⟨fun t=>if t=17 then asmP (.int .i64 a) else asmP (.int .i64 b),fun _=>limQ,noE⟩:Ctr).OK Tryz.prog:=by
 refine⟨fun t=> ?_,fun _=>limQ_ok⟩
 show PT.OK (if t=17 then asmP (.int .i64 a) else asmP (.int .i64 b))
 split
 ·exact asmP_ok _
 ·exact asmP_ok _
theorem ivN_ok (lo hi:List Int) (h1:lo.length<=1000) (h2:hi.length<=1000) (hlo: ∀ x∈lo,fitsB x=true) (hhi: ∀ x∈hi,fitsB x=true) (h:ivl lo hi=none) :
  CallL Tryz.prog (.func (.func 60) [] []) [.slice (intC .i64 lo) [],.slice (intC .i64 hi) []] [] fun r ob=>r= .pan manyV/\ob=[]:=by
 refine CallL.tree hdraw fpP60 (ivP_ok (minI lo) (maxI hi)) (PIvP_eq (intC .i64 lo) (intC .i64 hi) (minI lo) (maxI hi)) ?_
 unfold PIvP
 simp only[SS,intC_len]
 unfold ivl at h
 split at h
 ·cases h
 ·rename_i he
  split at h
  ·cases h
  ·rename_i h5
   have n1:lo≠[]:=fun e=>he (.inl (by rw[e]; rfl))
   have n2:hi≠[]:=fun e=>he (.inr (by rw[e]; rfl))
   have f1:=fitsB_iff.1 (hlo _ (minI_mem n1))
   have f2:=fitsB_iff.1 (hhi _ (maxI_mem n2))
   have l1:=List.length_pos_iff.2 n1
   have l2:=List.length_pos_iff.2 n2
   exact⟨fun h=>by omega,fun _=>⟨fun h=>by omega,fun _=>⟨min_ok lo n1 (by omega),max_ok hi n2 (by omega),by omega,by omega,fun _=>by omega,fun h=>by omega⟩⟩⟩
def RJ (z:Nat) (r0:D) (X:Obs):D->Obs->Prop:=fun r o=>(z<=1000->r=r0/\o=X)/\(1000<z->r= .pan manyV)
theorem rj_ok {z:Nat} {r0:D} {X:Obs} (h:z<=1000):RJ z r0 X r0 X:=⟨fun _=>⟨rfl,rfl⟩,fun h'=>by omega⟩
theorem rj_pan {z:Nat} {r0:D} {X o:Obs} (h:1000<z):RJ z r0 X (.pan manyV) o:=⟨fun h'=>by omega,fun _=>rfl⟩
def CJ (d:D) (args:List D) (ob:Obs) (z:Nat) (r0:D) (X:Obs):Prop :=
 (z<=1000->CallL Tryz.prog d args ob fun r o=>r=r0/\o=X)/\(1000<z->CallL Tryz.prog d args ob fun r o=>r= .pan manyV/\o=[])
theorem cj_of {d:D} {args:List D} {ob:Obs} {z:Nat} {r0:D} {X:Obs} (h:CallL Tryz.prog d args ob (RJ z r0 X)):CJ d args ob z r0 X :=
 ⟨fun hz=>h.mono fun _ _ hr=>hr.1 hz,fun hz=>h.pdrop fun _ _ hr=>hr.2 hz⟩
def yObP (s:List UInt8) (es row:List (List D)) (ks vs:List D):Obs:=(0,recOpP .ready none (dsOp 2 3 4 5))::obY s es row ks vs
theorem yldJ_ok (s:List UInt8) (L:List (List Int)) (row acc:List Int) (hr:row.length<=4611686018427387904) (hacc:acc.length<=1000) :
  CJ (.yld 0) [.vec 1] (yObP s (lisD L) (intC .i64 row) (intD acc) (intD acc)) (opB s row acc).length (.bool true) (yObP s (lisD L) (intC .i64 row) (intD (opB s row acc)) (intD (opB s row acc))):=by
 refine cj_of ?_
 refine CallL.yldTJ hdraw (ctr_ok limP_ok (QT.or_ok limQ_ok (asmA_ok _ _))) rfl (TyOP_eq s (lisD L) (intC .i64 row) (intD acc) (intD acc) (intD (opB s row acc)) (intD (opB s row acc)) (calcR s row).isSome ((calcR s row).getD 0) (opB s row acc).length) ?_
 unfold TyOP
 simp only[SS,intD_len]
 refine⟨calV_ok s row hr,fun hb=> ?_,fun hb=> ?_⟩
 ·obtain⟨n,hn⟩:=Option.isSome_iff_exists.1 hb
  have e:opB s row acc=insI n acc:=by unfold opB; rw[hn]
  rw[e,hn]
  refine⟨mput_int n acc,fun h=>⟨by omega,rj_pan (by omega)⟩,fun h=>⟨by omega,rj_ok (by omega)⟩⟩
 ·have e:opB s row acc=acc:=by
   unfold opB
   cases hq:calcR s row with
   | none=>rfl
   | some n=>rw[hq] at hb; cases hb
  rw[e]
  exact rj_ok hacc
def FilJ (s:List UInt8) (L:List (List Int)) (k:Nat) (row acc:List Int):Prop:=CJ (.func (.func 101) [] [.ptr 0 0,.ptr 1 0,.ptr 2 0,.ptr 3 0]) [.int .i64 k] (obFP s (lisD L) (intC .i64 row) (intD acc) (intD acc))
 (fillS (opB s) (L.drop k) k (row,acc)).2.length (.bool true) (obFP s (lisD L) (intC .i64 (fillS (opB s) (L.drop k) k (row,acc)).1) (intD (fillS (opB s) (L.drop k) k (row,acc)).2) (intD (fillS (opB s) (L.drop k) k (row,acc)).2))
abbrev fldI (s:List UInt8) (L:List (List Int)) (k:Nat) (l:List Int) (p:List Int × List Int):List Int × List Int:=l.foldl (fun p x=>fillS (opB s) (L.drop (k+1)) (k+1) (p.1.set k x,p.2)) p
theorem filJ_at (s:List UInt8) (L:List (List Int)) (k:Nat) (hk:k<L.length) (hL:L.length<=1073741824) (l:List Int) (hl:l.length<=1073741824)
  (HF: ∀ row acc,row.length=L.length->acc.length<=1000->FilJ s L (k+1) row acc): ∀ (m i:Nat) (row acc:List Int),l.length-i=m->i<=l.length->row.length=L.length->acc.length<=1000 →
  At Tryz.prog 10 (cut scP101 0) (hdF k l.length i (intC .i64 l) (obFP s (lisD L) (intC .i64 row) (intD acc) (intD acc))) (FinQ false 10 rsP101
   (RJ (fldI s L k (l.drop i) (row,acc)).2.length (.bool true) (obFP s (lisD L) (intC .i64 (fldI s L k (l.drop i) (row,acc)).1) (intD (fldI s L k (l.drop i) (row,acc)).2) (intD (fldI s L k (l.drop i) (row,acc)).2)))):=by
 intro m
 induction m with
 | zero =>
  intro i row acc hm hi hrow hz
  refine At.tree (ctr_ok libT_ok (asmJ_ok true _ _)) (CFl2P_eq s (lisD L) (intC .i64 row) (intC .i64 l) [] (intD acc) (intD acc) [] [] k l.length i 0 true) ?_
  unfold CFl2P
  have e:l.drop i=[]:=List.drop_eq_nil_of_le (by omega)
  rw[e]
  simp only[SS]
  exact⟨fun h=>by omega,fun _=>rj_ok hz⟩
 | succ m ih =>
  intro i row acc hm hi hrow hz
  have h1:i<l.length:=by omega
  simp only[fldI]
  rw[drop_cons h1,List.foldl_cons]
  have hlen:(fillS (opB s) (L.drop (k+1)) (k+1) (row.set k l[i],acc)).1.length=L.length:=by rw[fillS_len]; simpa using hrow
  have hmono:=fold_mono (z:=List.length) (opB_len s) (L.drop (k+1)) k (l.drop (i+1)) (fillS (opB s) (L.drop (k+1)) (k+1) (row.set k l[i],acc))
  have hC:=HF (row.set k l[i]) acc (by simpa using hrow) hz
  unfold FilJ CJ at hC
  have hI:=ih (i+1) (fillS (opB s) (L.drop (k+1)) (k+1) (row.set k l[i],acc)).1 (fillS (opB s) (L.drop (k+1)) (k+1) (row.set k l[i],acc)).2 (by omega) (by omega) hlen
  simp only[fldI] at hI
  refine At.tree (ctr_ok libT_ok (asmJ_ok (decide ((fillS (opB s) (L.drop (k+1)) (k+1) (row.set k l[i],acc)).2.length<=1000)) _ _)) (CFl2P_eq s (lisD L) (intC .i64 row) (intC .i64 l) (intC .i64 (fillS (opB s) (L.drop (k+1)) (k+1) (row.set k l[i],acc)).1) (intD acc) (intD acc) (intD (fillS (opB s) (L.drop (k+1)) (k+1) (row.set k l[i],acc)).2) (intD (fillS (opB s) (L.drop (k+1)) (k+1) (row.set k l[i],acc)).2) k l.length i l[i] _) ?_
  unfold CFl2P
  simp only[SS,intC_len,intC_set]
  refine⟨fun _=>⟨⟨by omega,intC_get h1⟩,by omega,by omega,by omega,fun hp=>⟨hC.1 hp,by omega,hI hp⟩,fun hp=>⟨hC.2 (by omega),rj_pan (by omega)⟩⟩,fun h=>by omega⟩
theorem filJ_ok (s:List UInt8) (L:List (List Int)) (hL:L.length<=1073741824) (hl: ∀ l∈L,l.length<=1073741824): ∀ (m k:Nat),L.length-k=m->k<=L.length-> ∀ row acc,row.length=L.length->acc.length<=1000->FilJ s L k row acc:=by
 intro m
 induction m with
 | zero =>
  intro k hm hk row acc hrow hz
  have e:L.drop k=[]:=List.drop_eq_nil_of_le (by omega)
  have hY:=yldJ_ok s L row acc (by omega) hz
  unfold FilJ
  rw[e]
  simp only[fillS]
  refine cj_of (CallL.tree hdraw fpP101 (ctr_ok libT_ok (asmJ_ok (decide ((opB s row acc).length<=1000)) _ _)) (CFlP_eq s (lisD L) (intC .i64 row) [] (intC .i64 row) (intD acc) (intD acc) (intD (opB s row acc)) (intD (opB s row acc)) k _) ?_)
  unfold CFlP
  simp only[SS,lisD_len]
  exact⟨fun _=>⟨fun hp=>⟨hY.1 hp,rj_ok hp⟩,fun hp=>⟨hY.2 (by omega),rj_pan (by omega)⟩⟩,fun h=>by omega⟩
 | succ m ih =>
  intro k hm hk row acc hrow hz
  have h1:k<L.length:=by omega
  have hA:=filJ_at s L k h1 hL L[k] (hl _ (List.getElem_mem h1)) (fun row acc hr hz=>ih (k+1) (by omega) (by omega) row acc hr hz) _ 0 row acc rfl (Nat.zero_le _) hrow hz
  unfold FilJ
  rw[drop_cons h1]
  simp only[fillS]
  simp only[List.drop_zero] at hA
  refine cj_of (CallL.tree hdraw fpP101 (ctr_ok libT_ok (asmJ_ok true _ _)) (CFlP_eq s (lisD L) (intC .i64 row) (intC .i64 L[k]) [] (intD acc) (intD acc) [] [] k true) ?_)
  unfold CFlP
  simp only[SS,lisD_len,intC_len]
  exact⟨fun h=>by omega,fun _=>⟨⟨by omega,lisD_get h1⟩,hA⟩⟩
theorem rwsN_ok (s:List UInt8) (L:List (List Int)) (hL:L.length<=1073741824) (hl: ∀ l∈L,l.length<=1073741824) (hz:1000<(fillS (opB s) L 0 (List.replicate L.length 0,[])).2.length) :
  CallL Tryz.prog (.func (.func 100) [] [.ptr 0 0]) [.yld 1] (obOP s (lisD L) [] []) fun r ob=>r= .pan manyV/\ob=[]:=by
 have hF:=filJ_ok s L hL hl _ 0 rfl (Nat.zero_le _) (List.replicate L.length 0) [] (by simp) (by simp)
 unfold FilJ CJ at hF
 rw[List.drop_zero] at hF
 have hN:=hF.2 hz
 have e:intC .i64 (List.replicate L.length 0)=List.replicate L.length [.int .i64 0]:=by simp[intC]
 rw[e] at hN
 refine CallL.pdrop (R:=fun r _=>r= .pan manyV) ?_ fun _ _ h=>h
 refine CallL.tree hdraw fpP100 (ctr_ok libT_ok (asmJ_ok false _ _)) (CR1P_eq s (lisD L) [] [] false [] [] []) ?_
 unfold CR1P
 simp only[SS,lisD_len]
 exact⟨⟨by omega,by omega,by omega⟩,fun h=>(Bool.noConfusion h),hN⟩
end Go.Proofs.YtfoklncmfoogcaaGreatDoor
