/- every,subterms,visit. -/
import Derived.Test.YtfoklncmfoogcaaGreatDoorLibT
import Derived.Test.YtfoklncmfoogcaaGreatDoorSx8
set_option linter.unusedSectionVars false
set_option linter.unusedVariables false
set_option linter.unusedSimpArgs false
set_option linter.deprecated false
set_option maxRecDepth 100000
namespace Go.Proofs.YtfoklncmfoogcaaGreatDoor
open Go.Sx
def asmV (r:D):QT:=fun d xs ob=>match ob with
 | []=>some (.ok (CallL Tryz.prog d xs [] fun r0 ob0=>r0=r/\ob0=[]) r [])
 | _=>none
theorem asmV_ok (r:D):(asmV r).OK:=by
 intro d xs ob rt h
 unfold asmV at h
 split at h
 ·cases h; exact fun hp=>hp
 ·cases h
noncomputable def CSub (k n:Int) (s:List UInt8) (a:List (List D)):Tr:=Tr.ret (D.func (Fn.func 89) [] [D.ptr 0 0]) [(0,Ob.cells [D.int .u8 k,D.int .i64 n,D.str s,D.slice a []])]
theorem CSub_eq (k n:Int) (s:List UInt8) (a:List (List D)):goT Tryz.prog (ctr libT) 0 (finF false 0 rs64) 2000 [Fr.sc sc64] { tm:=envOf 0 ([]++[D.agg [D.int .u8 k,D.int .i64 n,D.str s,D.slice a []]]++[]),ob:=[] }=CSub k n s a:=by kernel_rfl
def subQ:QT:=fun d xs ob=>match d,xs,ob with
 | .func (.func f) [] [],[.agg [.int .u8 k,.int .i64 n,.str s,.slice a []]],[]=>if f=64 then some (.ok True (.func (.func 89) [] [.ptr 0 0]) [(0,.cells [.int .u8 k,.int .i64 n,.str s,.slice a []])]) else none
 | _,_,_=>none
theorem subQ_ok:subQ.OK:=by
 intro d xs ob rt h
 unfold subQ at h
 split at h
 ·split at h
  ·rename_i hf
   subst hf
   cases h
   intro _
   exact CallL.tree hdraw fp64 (ctr_ok libT_ok qnone_ok) (CSub_eq _ _ _ _) ⟨rfl,rfl⟩
  ·cases h
 ·cases h
def keysEv:List Nat:=[7,6,4,3,2,0,1]
abbrev tC (k n:Int) (s:List UInt8) (a:List (List D)):List D:=[.int .u8 k,.int .i64 n,.str s,.slice a []]
def dsEv (k n:Int) (s:List UInt8) (a:List (List D)) (f:FuncId) (t0 q u v:Nat):List D:=[.func (.func 89) [] [.ptr t0 0],.agg (tC k n s a),.ptr q 0,.ptr u 0,.ptr v 0,.agg (tC k n s a),.func (.func f) [] []]
def recEv (st:LoopState) (pend:Option Code) (ds:List D):Ob:= .gen (.loop st pend #[8] (sc43.rngA 0) (sc43.rngB 0) 13 keysEv) ds
def obEv (k n:Int) (s:List UInt8) (a:List (List D)) (f:FuncId) (st:LoopState) (pend:Option Code) (b:Bool):Obs:=[(0,.cells (tC k n s a)),(1,recEv st pend (dsEv k n s a f 0 2 3 4)),(2,.cells [.bool b]),(3,.cells [.func (.func f) [] []]),(4,.cells (tC k n s a))]
def obVi (k n:Int) (s:List UInt8) (a:List (List D)) (f:FuncId) (st:LoopState) (pend:Option Code):Obs:=[(0,recEv st pend (dsEv k n s a f 1 2 3 4)),(1,.cells (tC k n s a)),(2,.cells [.bool false]),(3,.cells [.func (.func f) [] []]),(4,.cells (tC k n s a))]
def doneO:Obs->Obs
 | (i,.gen (.loop _ _ ps ra rb N ks) ds)::r=>(i,.gen (.loop .done (some .ret) ps ra rb N ks) ds)::r
 | ob=>ob
def asmB (b:Bool):QT:=fun d xs ob=>some (.br b (.ok (CallL Tryz.prog d xs ob fun r o=>r= .bool true/\o=ob) (.bool true) ob) (.ok (CallL Tryz.prog d xs ob fun r o=>r= .bool false/\o=doneO ob) (.bool false) (doneO ob)))
theorem asmB_ok (b:Bool):(asmB b).OK:=by
 intro d xs ob rt h
 cases h
 cases b
 ·exact fun hp=>hp
 ·exact fun hp=>hp
noncomputable def CVi (kx nx:Int) (sx:List UInt8) (ax:List (List D)) (k n:Int) (s:List UInt8) (a:List (List D)) (f:FuncId) (b:Bool):Tr:=brT b (Tr.owe (CallL Tryz.prog (D.yld 0) [D.agg [D.int .u8 kx,D.int .i64 nx,D.str sx,D.slice ax []]] [(0,Ob.gen (Gen.loop LoopState.ready none #[8] (SC.rngA sc43 0) (SC.rngB sc43 0) 13 [7,6,4,3,2,0,1]) [D.func (Fn.func 89) [] [D.ptr 1 0],D.agg [D.int .u8 k,D.int .i64 n,D.str s,D.slice a []],D.ptr 2 0,D.ptr 3 0,D.ptr 4 0,D.agg [D.int .u8 k,D.int .i64 n,D.str s,D.slice a []],D.func (Fn.func f) [] []]),(1,Ob.cells [D.int .u8 k,D.int .i64 n,D.str s,D.slice a []]),(2,Ob.cells [D.bool false]),(3,Ob.cells [D.func (Fn.func f) [] []]),(4,Ob.cells [D.int .u8 k,D.int .i64 n,D.str s,D.slice a []])] fun r o=>r=D.bool true/\o=[(0,Ob.gen (Gen.loop LoopState.ready none #[8] (SC.rngA sc43 0) (SC.rngB sc43 0) 13 [7,6,4,3,2,0,1]) [D.func (Fn.func 89) [] [D.ptr 1 0],D.agg [D.int .u8 k,D.int .i64 n,D.str s,D.slice a []],D.ptr 2 0,D.ptr 3 0,D.ptr 4 0,D.agg [D.int .u8 k,D.int .i64 n,D.str s,D.slice a []],D.func (Fn.func f) [] []]),(1,Ob.cells [D.int .u8 k,D.int .i64 n,D.str s,D.slice a []]),(2,Ob.cells [D.bool false]),(3,Ob.cells [D.func (Fn.func f) [] []]),(4,Ob.cells [D.int .u8 k,D.int .i64 n,D.str s,D.slice a []])]) (Tr.jmp (cut sc90 0) { tm:=[(1,D.yld 0),(12,D.slice ax []),(13,D.int .i64 (↑(List.length ax):Int)),(14,D.int .i64 (0:Int))],ob:=[(0,Ob.gen (Gen.loop LoopState.ready none #[8] (SC.rngA sc43 0) (SC.rngB sc43 0) 13 [7,6,4,3,2,0,1]) [D.func (Fn.func 89) [] [D.ptr 1 0],D.agg [D.int .u8 k,D.int .i64 n,D.str s,D.slice a []],D.ptr 2 0,D.ptr 3 0,D.ptr 4 0,D.agg [D.int .u8 k,D.int .i64 n,D.str s,D.slice a []],D.func (Fn.func f) [] []]),(1,Ob.cells [D.int .u8 k,D.int .i64 n,D.str s,D.slice a []]),(2,Ob.cells [D.bool false]),(3,Ob.cells [D.func (Fn.func f) [] []]),(4,Ob.cells [D.int .u8 k,D.int .i64 n,D.str s,D.slice a []])] })) (Tr.owe (CallL Tryz.prog (D.yld 0) [D.agg [D.int .u8 kx,D.int .i64 nx,D.str sx,D.slice ax []]] [(0,Ob.gen (Gen.loop LoopState.ready none #[8] (SC.rngA sc43 0) (SC.rngB sc43 0) 13 [7,6,4,3,2,0,1]) [D.func (Fn.func 89) [] [D.ptr 1 0],D.agg [D.int .u8 k,D.int .i64 n,D.str s,D.slice a []],D.ptr 2 0,D.ptr 3 0,D.ptr 4 0,D.agg [D.int .u8 k,D.int .i64 n,D.str s,D.slice a []],D.func (Fn.func f) [] []]),(1,Ob.cells [D.int .u8 k,D.int .i64 n,D.str s,D.slice a []]),(2,Ob.cells [D.bool false]),(3,Ob.cells [D.func (Fn.func f) [] []]),(4,Ob.cells [D.int .u8 k,D.int .i64 n,D.str s,D.slice a []])] fun r o=>r=D.bool false/\o=[(0,Ob.gen (Gen.loop LoopState.done (some Code.ret) #[8] (SC.rngA sc43 0) (SC.rngB sc43 0) 13 [7,6,4,3,2,0,1]) [D.func (Fn.func 89) [] [D.ptr 1 0],D.agg [D.int .u8 k,D.int .i64 n,D.str s,D.slice a []],D.ptr 2 0,D.ptr 3 0,D.ptr 4 0,D.agg [D.int .u8 k,D.int .i64 n,D.str s,D.slice a []],D.func (Fn.func f) [] []]),(1,Ob.cells [D.int .u8 k,D.int .i64 n,D.str s,D.slice a []]),(2,Ob.cells [D.bool false]),(3,Ob.cells [D.func (Fn.func f) [] []]),(4,Ob.cells [D.int .u8 k,D.int .i64 n,D.str s,D.slice a []])]) (Tr.ret (D.bool false) [(0,Ob.gen (Gen.loop LoopState.done (some Code.ret) #[8] (SC.rngA sc43 0) (SC.rngB sc43 0) 13 [7,6,4,3,2,0,1]) [D.func (Fn.func 89) [] [D.ptr 1 0],D.agg [D.int .u8 k,D.int .i64 n,D.str s,D.slice a []],D.ptr 2 0,D.ptr 3 0,D.ptr 4 0,D.agg [D.int .u8 k,D.int .i64 n,D.str s,D.slice a []],D.func (Fn.func f) [] []]),(1,Ob.cells [D.int .u8 k,D.int .i64 n,D.str s,D.slice a []]),(2,Ob.cells [D.bool false]),(3,Ob.cells [D.func (Fn.func f) [] []]),(4,Ob.cells [D.int .u8 k,D.int .i64 n,D.str s,D.slice a []])]))
theorem CVi_eq (kx nx:Int) (sx:List UInt8) (ax:List (List D)) (k n:Int) (s:List UInt8) (a:List (List D)) (f:FuncId) (b:Bool):goT Tryz.prog (ctr libT (asmB b)) 5 (finF false 5 rs90) 2000 [Fr.sc sc90] { tm:=envOf 0 ([]++[D.agg (tC kx nx sx ax),D.yld 0]++[]),ob:=obVi k n s a f LoopState.ready none }=CVi kx nx sx ax k n s a f b:=by kernel_rfl
noncomputable def TyE (kx nx:Int) (sx:List UInt8) (ax:List (List D)) (k n:Int) (s:List UInt8) (a:List (List D)) (f:FuncId) (b:Bool):Tr:=Tr.owe (CallL Tryz.prog (D.func (Fn.func f) [] []) [D.agg [D.int .u8 kx,D.int .i64 nx,D.str sx,D.slice ax []]] [] fun r0 ob0=>r0=D.bool b/\ob0=[]) (brT (!b) (Tr.ret (D.bool false) [(0,Ob.gen (Gen.loop LoopState.done (some Code.ret) #[8] (SC.rngA sc43 0) (SC.rngB sc43 0) 13 [7,6,4,3,2,0,1]) [D.func (Fn.func 89) [] [D.ptr 1 0],D.agg [D.int .u8 k,D.int .i64 n,D.str s,D.slice a []],D.ptr 2 0,D.ptr 3 0,D.ptr 4 0,D.agg [D.int .u8 k,D.int .i64 n,D.str s,D.slice a []],D.func (Fn.func f) [] []]),(1,Ob.cells [D.int .u8 k,D.int .i64 n,D.str s,D.slice a []]),(2,Ob.cells [D.bool false]),(3,Ob.cells [D.func (Fn.func f) [] []]),(4,Ob.cells [D.int .u8 k,D.int .i64 n,D.str s,D.slice a []])]) (Tr.ret (D.bool true) [(0,Ob.gen (Gen.loop LoopState.ready none #[8] (SC.rngA sc43 0) (SC.rngB sc43 0) 13 [7,6,4,3,2,0,1]) [D.func (Fn.func 89) [] [D.ptr 1 0],D.agg [D.int .u8 k,D.int .i64 n,D.str s,D.slice a []],D.ptr 2 0,D.ptr 3 0,D.ptr 4 0,D.agg [D.int .u8 k,D.int .i64 n,D.str s,D.slice a []],D.func (Fn.func f) [] []]),(1,Ob.cells [D.int .u8 k,D.int .i64 n,D.str s,D.slice a []]),(2,Ob.cells [D.bool false]),(3,Ob.cells [D.func (Fn.func f) [] []]),(4,Ob.cells [D.int .u8 k,D.int .i64 n,D.str s,D.slice a []])]))
theorem TyE_eq (kx nx:Int) (sx:List UInt8) (ax:List (List D)) (k n:Int) (s:List UInt8) (a:List (List D)) (f:FuncId) (b:Bool):yldT Tryz.prog (ctr libT (asmV (D.bool b))) 5 0 13 #[8] (SC.rngA sc43 0) (SC.rngB sc43 0) keysEv (dsEv k n s a f 1 2 3 4) 2000 { tm:=putP (List.zip [8] [D.agg (tC kx nx sx ax)]) (List.zip keysEv (dsEv k n s a f 1 2 3 4)),ob:=[(1,Ob.cells (tC k n s a)),(2,Ob.cells [D.bool false]),(3,Ob.cells [D.func (Fn.func f) [] []]),(4,Ob.cells (tC k n s a))] }=TyE kx nx sx ax k n s a f b:=by kernel_rfl
def hdVi (ax:List (List D)) (m i:Int) (ob:Obs):St:=⟨[(1,.yld 0),(12,.slice ax []),(13,.int .i64 m),(14,.int .i64 i)],ob⟩
noncomputable def CVi2 (a':List (List D)) (m i kx nx:Int) (sx:List UInt8) (ax:List (List D)) (k n:Int) (s:List UInt8) (a:List (List D)) (f:FuncId) (b:Bool):Tr:=brT (decide (i<m)) (Tr.owe ((0:Int)<=i/\a'[Int.toNat i]? = some [D.int .u8 kx,D.int .i64 nx,D.str sx,D.slice ax []]) (brT b (Tr.owe (CallL Tryz.prog (D.func (Fn.func 90) [] []) [D.agg [D.int .u8 kx,D.int .i64 nx,D.str sx,D.slice ax []],D.yld 0] [(0,Ob.gen (Gen.loop LoopState.ready none #[8] (SC.rngA sc43 0) (SC.rngB sc43 0) 13 [7,6,4,3,2,0,1]) [D.func (Fn.func 89) [] [D.ptr 1 0],D.agg [D.int .u8 k,D.int .i64 n,D.str s,D.slice a []],D.ptr 2 0,D.ptr 3 0,D.ptr 4 0,D.agg [D.int .u8 k,D.int .i64 n,D.str s,D.slice a []],D.func (Fn.func f) [] []]),(1,Ob.cells [D.int .u8 k,D.int .i64 n,D.str s,D.slice a []]),(2,Ob.cells [D.bool false]),(3,Ob.cells [D.func (Fn.func f) [] []]),(4,Ob.cells [D.int .u8 k,D.int .i64 n,D.str s,D.slice a []])] fun r o=>r=D.bool true/\o=[(0,Ob.gen (Gen.loop LoopState.ready none #[8] (SC.rngA sc43 0) (SC.rngB sc43 0) 13 [7,6,4,3,2,0,1]) [D.func (Fn.func 89) [] [D.ptr 1 0],D.agg [D.int .u8 k,D.int .i64 n,D.str s,D.slice a []],D.ptr 2 0,D.ptr 3 0,D.ptr 4 0,D.agg [D.int .u8 k,D.int .i64 n,D.str s,D.slice a []],D.func (Fn.func f) [] []]),(1,Ob.cells [D.int .u8 k,D.int .i64 n,D.str s,D.slice a []]),(2,Ob.cells [D.bool false]),(3,Ob.cells [D.func (Fn.func f) [] []]),(4,Ob.cells [D.int .u8 k,D.int .i64 n,D.str s,D.slice a []])]) (Tr.owe ((-9223372036854775808:Int)<=i+(1:Int)/\i+(1:Int)<=(9223372036854775807:Int)) (Tr.jmp (cut sc90 0) { tm:=[(1,D.yld 0),(12,D.slice a' []),(13,D.int .i64 m),(14,D.int .i64 (i+(1:Int)))],ob:=[(0,Ob.gen (Gen.loop LoopState.ready none #[8] (SC.rngA sc43 0) (SC.rngB sc43 0) 13 [7,6,4,3,2,0,1]) [D.func (Fn.func 89) [] [D.ptr 1 0],D.agg [D.int .u8 k,D.int .i64 n,D.str s,D.slice a []],D.ptr 2 0,D.ptr 3 0,D.ptr 4 0,D.agg [D.int .u8 k,D.int .i64 n,D.str s,D.slice a []],D.func (Fn.func f) [] []]),(1,Ob.cells [D.int .u8 k,D.int .i64 n,D.str s,D.slice a []]),(2,Ob.cells [D.bool false]),(3,Ob.cells [D.func (Fn.func f) [] []]),(4,Ob.cells [D.int .u8 k,D.int .i64 n,D.str s,D.slice a []])] }))) (Tr.owe (CallL Tryz.prog (D.func (Fn.func 90) [] []) [D.agg [D.int .u8 kx,D.int .i64 nx,D.str sx,D.slice ax []],D.yld 0] [(0,Ob.gen (Gen.loop LoopState.ready none #[8] (SC.rngA sc43 0) (SC.rngB sc43 0) 13 [7,6,4,3,2,0,1]) [D.func (Fn.func 89) [] [D.ptr 1 0],D.agg [D.int .u8 k,D.int .i64 n,D.str s,D.slice a []],D.ptr 2 0,D.ptr 3 0,D.ptr 4 0,D.agg [D.int .u8 k,D.int .i64 n,D.str s,D.slice a []],D.func (Fn.func f) [] []]),(1,Ob.cells [D.int .u8 k,D.int .i64 n,D.str s,D.slice a []]),(2,Ob.cells [D.bool false]),(3,Ob.cells [D.func (Fn.func f) [] []]),(4,Ob.cells [D.int .u8 k,D.int .i64 n,D.str s,D.slice a []])] fun r o=>r=D.bool false/\o=[(0,Ob.gen (Gen.loop LoopState.done (some Code.ret) #[8] (SC.rngA sc43 0) (SC.rngB sc43 0) 13 [7,6,4,3,2,0,1]) [D.func (Fn.func 89) [] [D.ptr 1 0],D.agg [D.int .u8 k,D.int .i64 n,D.str s,D.slice a []],D.ptr 2 0,D.ptr 3 0,D.ptr 4 0,D.agg [D.int .u8 k,D.int .i64 n,D.str s,D.slice a []],D.func (Fn.func f) [] []]),(1,Ob.cells [D.int .u8 k,D.int .i64 n,D.str s,D.slice a []]),(2,Ob.cells [D.bool false]),(3,Ob.cells [D.func (Fn.func f) [] []]),(4,Ob.cells [D.int .u8 k,D.int .i64 n,D.str s,D.slice a []])]) (Tr.ret (D.bool false) [(0,Ob.gen (Gen.loop LoopState.done (some Code.ret) #[8] (SC.rngA sc43 0) (SC.rngB sc43 0) 13 [7,6,4,3,2,0,1]) [D.func (Fn.func 89) [] [D.ptr 1 0],D.agg [D.int .u8 k,D.int .i64 n,D.str s,D.slice a []],D.ptr 2 0,D.ptr 3 0,D.ptr 4 0,D.agg [D.int .u8 k,D.int .i64 n,D.str s,D.slice a []],D.func (Fn.func f) [] []]),(1,Ob.cells [D.int .u8 k,D.int .i64 n,D.str s,D.slice a []]),(2,Ob.cells [D.bool false]),(3,Ob.cells [D.func (Fn.func f) [] []]),(4,Ob.cells [D.int .u8 k,D.int .i64 n,D.str s,D.slice a []])])))) (Tr.ret (D.bool true) [(0,Ob.gen (Gen.loop LoopState.ready none #[8] (SC.rngA sc43 0) (SC.rngB sc43 0) 13 [7,6,4,3,2,0,1]) [D.func (Fn.func 89) [] [D.ptr 1 0],D.agg [D.int .u8 k,D.int .i64 n,D.str s,D.slice a []],D.ptr 2 0,D.ptr 3 0,D.ptr 4 0,D.agg [D.int .u8 k,D.int .i64 n,D.str s,D.slice a []],D.func (Fn.func f) [] []]),(1,Ob.cells [D.int .u8 k,D.int .i64 n,D.str s,D.slice a []]),(2,Ob.cells [D.bool false]),(3,Ob.cells [D.func (Fn.func f) [] []]),(4,Ob.cells [D.int .u8 k,D.int .i64 n,D.str s,D.slice a []])])
theorem CVi2_eq (a':List (List D)) (m i kx nx:Int) (sx:List UInt8) (ax:List (List D)) (k n:Int) (s:List UInt8) (a:List (List D)) (f:FuncId) (b:Bool):goT Tryz.prog (ctr libT (asmB b) fun x x_1=>tC kx nx sx ax) 5 (finF false 5 rs90) 2000 (cut sc90 0) (hdVi a' m i (obVi k n s a f LoopState.ready none))=CVi2 a' m i kx nx sx ax k n s a f b:=by kernel_rfl
noncomputable def CSb1 (k n:Int) (s:List UInt8) (a:List (List D)) (f:FuncId) (b:Bool):Tr:=brT b (Tr.owe (CallL Tryz.prog (D.func (Fn.func 90) [] []) [D.agg [D.int .u8 k,D.int .i64 n,D.str s,D.slice a []],D.yld 0] [(0,Ob.gen (Gen.loop LoopState.ready none #[8] (SC.rngA sc43 0) (SC.rngB sc43 0) 13 [7,6,4,3,2,0,1]) [D.func (Fn.func 89) [] [D.ptr 1 0],D.agg [D.int .u8 k,D.int .i64 n,D.str s,D.slice a []],D.ptr 2 0,D.ptr 3 0,D.ptr 4 0,D.agg [D.int .u8 k,D.int .i64 n,D.str s,D.slice a []],D.func (Fn.func f) [] []]),(1,Ob.cells [D.int .u8 k,D.int .i64 n,D.str s,D.slice a []]),(2,Ob.cells [D.bool false]),(3,Ob.cells [D.func (Fn.func f) [] []]),(4,Ob.cells [D.int .u8 k,D.int .i64 n,D.str s,D.slice a []])] fun r o=>r=D.bool true/\o=[(0,Ob.gen (Gen.loop LoopState.ready none #[8] (SC.rngA sc43 0) (SC.rngB sc43 0) 13 [7,6,4,3,2,0,1]) [D.func (Fn.func 89) [] [D.ptr 1 0],D.agg [D.int .u8 k,D.int .i64 n,D.str s,D.slice a []],D.ptr 2 0,D.ptr 3 0,D.ptr 4 0,D.agg [D.int .u8 k,D.int .i64 n,D.str s,D.slice a []],D.func (Fn.func f) [] []]),(1,Ob.cells [D.int .u8 k,D.int .i64 n,D.str s,D.slice a []]),(2,Ob.cells [D.bool false]),(3,Ob.cells [D.func (Fn.func f) [] []]),(4,Ob.cells [D.int .u8 k,D.int .i64 n,D.str s,D.slice a []])]) (Tr.ret (D.tuple []) [(0,Ob.cells [D.int .u8 k,D.int .i64 n,D.str s,D.slice a []]),(1,Ob.gen (Gen.loop LoopState.ready none #[8] (SC.rngA sc43 0) (SC.rngB sc43 0) 13 [7,6,4,3,2,0,1]) [D.func (Fn.func 89) [] [D.ptr 0 0],D.agg [D.int .u8 k,D.int .i64 n,D.str s,D.slice a []],D.ptr 2 0,D.ptr 3 0,D.ptr 4 0,D.agg [D.int .u8 k,D.int .i64 n,D.str s,D.slice a []],D.func (Fn.func f) [] []]),(2,Ob.cells [D.bool false]),(3,Ob.cells [D.func (Fn.func f) [] []]),(4,Ob.cells [D.int .u8 k,D.int .i64 n,D.str s,D.slice a []])])) (Tr.owe (CallL Tryz.prog (D.func (Fn.func 90) [] []) [D.agg [D.int .u8 k,D.int .i64 n,D.str s,D.slice a []],D.yld 0] [(0,Ob.gen (Gen.loop LoopState.ready none #[8] (SC.rngA sc43 0) (SC.rngB sc43 0) 13 [7,6,4,3,2,0,1]) [D.func (Fn.func 89) [] [D.ptr 1 0],D.agg [D.int .u8 k,D.int .i64 n,D.str s,D.slice a []],D.ptr 2 0,D.ptr 3 0,D.ptr 4 0,D.agg [D.int .u8 k,D.int .i64 n,D.str s,D.slice a []],D.func (Fn.func f) [] []]),(1,Ob.cells [D.int .u8 k,D.int .i64 n,D.str s,D.slice a []]),(2,Ob.cells [D.bool false]),(3,Ob.cells [D.func (Fn.func f) [] []]),(4,Ob.cells [D.int .u8 k,D.int .i64 n,D.str s,D.slice a []])] fun r o=>r=D.bool false/\o=[(0,Ob.gen (Gen.loop LoopState.done (some Code.ret) #[8] (SC.rngA sc43 0) (SC.rngB sc43 0) 13 [7,6,4,3,2,0,1]) [D.func (Fn.func 89) [] [D.ptr 1 0],D.agg [D.int .u8 k,D.int .i64 n,D.str s,D.slice a []],D.ptr 2 0,D.ptr 3 0,D.ptr 4 0,D.agg [D.int .u8 k,D.int .i64 n,D.str s,D.slice a []],D.func (Fn.func f) [] []]),(1,Ob.cells [D.int .u8 k,D.int .i64 n,D.str s,D.slice a []]),(2,Ob.cells [D.bool false]),(3,Ob.cells [D.func (Fn.func f) [] []]),(4,Ob.cells [D.int .u8 k,D.int .i64 n,D.str s,D.slice a []])]) (Tr.ret (D.tuple []) [(0,Ob.cells [D.int .u8 k,D.int .i64 n,D.str s,D.slice a []]),(1,Ob.gen (Gen.loop LoopState.done (some Code.ret) #[8] (SC.rngA sc43 0) (SC.rngB sc43 0) 13 [7,6,4,3,2,0,1]) [D.func (Fn.func 89) [] [D.ptr 0 0],D.agg [D.int .u8 k,D.int .i64 n,D.str s,D.slice a []],D.ptr 2 0,D.ptr 3 0,D.ptr 4 0,D.agg [D.int .u8 k,D.int .i64 n,D.str s,D.slice a []],D.func (Fn.func f) [] []]),(2,Ob.cells [D.bool false]),(3,Ob.cells [D.func (Fn.func f) [] []]),(4,Ob.cells [D.int .u8 k,D.int .i64 n,D.str s,D.slice a []])]))
theorem CSb1_eq (k n:Int) (s:List UInt8) (a:List (List D)) (f:FuncId) (b:Bool):goT Tryz.prog (ctr libT (asmB b)) 5 (finF false 5 rs89) 2000 [Fr.sc sc89] { tm:=envOf 0 ([]++[D.yld 1]++[D.ptr 0 0]),ob:=obEv k n s a f LoopState.ready none false }=CSb1 k n s a f b:=by kernel_rfl
def asmI (b:Bool):QT:=fun d xs ob=>match d,ob with
 | .func (.func _) [] [.ptr 0 0],(0,c)::(1,.gen (.loop _ _ ps ra rb N ks) ds)::r=>some (.br b (.ok (CallL Tryz.prog d xs ob fun r o=>r= .tuple []/\o=ob) (.tuple []) ob) (.ok (CallL Tryz.prog d xs ob fun r0 o=>r0= .tuple []/\o=(0,c)::(1,.gen (.loop .done (some .ret) ps ra rb N ks) ds)::r) (.tuple []) ((0,c)::(1,.gen (.loop .done (some .ret) ps ra rb N ks) ds)::r)))
 | _,_=>none
theorem asmI_ok (b:Bool):(asmI b).OK:=by
 intro d xs ob rt h
 unfold asmI at h
 split at h
 ·cases h
  cases b
  ·exact fun hp=>hp
  ·exact fun hp=>hp
 ·cases h
noncomputable def CEv (k n:Int) (s:List UInt8) (a:List (List D)) (f:FuncId) (b:Bool):Tr:=Tr.owe True (brT b (Tr.owe (CallL Tryz.prog (D.func (Fn.func 89) [] [D.ptr 0 0]) [D.yld 1] [(0,Ob.cells [D.int .u8 k,D.int .i64 n,D.str s,D.slice a []]),(1,Ob.gen (Gen.loop LoopState.ready none #[8] (SC.reg [so 5 (AOp.alloc [D.int .u8 (0:Int),D.int .i64 (0:Int),D.str [],D.nils]) [],SOp.st none (SK.c 4) (xt 5) (xt 8)]) (SC.block 1 (SC.seq (SC.reg [so 9 (AOp.load false 1) [xt 3],so 10 (AOp.load true 4) [xt 5],SOp.cd (some 11) none (xt 9) [xt 10],so 12 (AOp.un UnOp.not) [xt 11]]) (SC.cond (xt 12) (SC.seq (SC.reg [SOp.st none (SK.c 1) (xt 4) (xc (D.bool false))]) SC.ret) SC.skip))) 13 [7,6,4,3,2,0,1]) [D.func (Fn.func 89) [] [D.ptr 0 0],D.agg [D.int .u8 k,D.int .i64 n,D.str s,D.slice a []],D.ptr 2 0,D.ptr 3 0,D.ptr 4 0,D.agg [D.int .u8 k,D.int .i64 n,D.str s,D.slice a []],D.func (Fn.func f) [] []]),(2,Ob.cells [D.bool false]),(3,Ob.cells [D.func (Fn.func f) [] []]),(4,Ob.cells [D.int .u8 k,D.int .i64 n,D.str s,D.slice a []])] fun r o=>r=D.tuple []/\o=[(0,Ob.cells [D.int .u8 k,D.int .i64 n,D.str s,D.slice a []]),(1,Ob.gen (Gen.loop LoopState.ready none #[8] (SC.reg [so 5 (AOp.alloc [D.int .u8 (0:Int),D.int .i64 (0:Int),D.str [],D.nils]) [],SOp.st none (SK.c 4) (xt 5) (xt 8)]) (SC.block 1 (SC.seq (SC.reg [so 9 (AOp.load false 1) [xt 3],so 10 (AOp.load true 4) [xt 5],SOp.cd (some 11) none (xt 9) [xt 10],so 12 (AOp.un UnOp.not) [xt 11]]) (SC.cond (xt 12) (SC.seq (SC.reg [SOp.st none (SK.c 1) (xt 4) (xc (D.bool false))]) SC.ret) SC.skip))) 13 [7,6,4,3,2,0,1]) [D.func (Fn.func 89) [] [D.ptr 0 0],D.agg [D.int .u8 k,D.int .i64 n,D.str s,D.slice a []],D.ptr 2 0,D.ptr 3 0,D.ptr 4 0,D.agg [D.int .u8 k,D.int .i64 n,D.str s,D.slice a []],D.func (Fn.func f) [] []]),(2,Ob.cells [D.bool false]),(3,Ob.cells [D.func (Fn.func f) [] []]),(4,Ob.cells [D.int .u8 k,D.int .i64 n,D.str s,D.slice a []])]) (Tr.ret (D.bool true) [])) (Tr.owe (CallL Tryz.prog (D.func (Fn.func 89) [] [D.ptr 0 0]) [D.yld 1] [(0,Ob.cells [D.int .u8 k,D.int .i64 n,D.str s,D.slice a []]),(1,Ob.gen (Gen.loop LoopState.ready none #[8] (SC.reg [so 5 (AOp.alloc [D.int .u8 (0:Int),D.int .i64 (0:Int),D.str [],D.nils]) [],SOp.st none (SK.c 4) (xt 5) (xt 8)]) (SC.block 1 (SC.seq (SC.reg [so 9 (AOp.load false 1) [xt 3],so 10 (AOp.load true 4) [xt 5],SOp.cd (some 11) none (xt 9) [xt 10],so 12 (AOp.un UnOp.not) [xt 11]]) (SC.cond (xt 12) (SC.seq (SC.reg [SOp.st none (SK.c 1) (xt 4) (xc (D.bool false))]) SC.ret) SC.skip))) 13 [7,6,4,3,2,0,1]) [D.func (Fn.func 89) [] [D.ptr 0 0],D.agg [D.int .u8 k,D.int .i64 n,D.str s,D.slice a []],D.ptr 2 0,D.ptr 3 0,D.ptr 4 0,D.agg [D.int .u8 k,D.int .i64 n,D.str s,D.slice a []],D.func (Fn.func f) [] []]),(2,Ob.cells [D.bool false]),(3,Ob.cells [D.func (Fn.func f) [] []]),(4,Ob.cells [D.int .u8 k,D.int .i64 n,D.str s,D.slice a []])] fun r0 o=>r0=D.tuple []/\o=[(0,Ob.cells [D.int .u8 k,D.int .i64 n,D.str s,D.slice a []]),(1,Ob.gen (Gen.loop LoopState.done (some Code.ret) #[8] (SC.reg [so 5 (AOp.alloc [D.int .u8 (0:Int),D.int .i64 (0:Int),D.str [],D.nils]) [],SOp.st none (SK.c 4) (xt 5) (xt 8)]) (SC.block 1 (SC.seq (SC.reg [so 9 (AOp.load false 1) [xt 3],so 10 (AOp.load true 4) [xt 5],SOp.cd (some 11) none (xt 9) [xt 10],so 12 (AOp.un UnOp.not) [xt 11]]) (SC.cond (xt 12) (SC.seq (SC.reg [SOp.st none (SK.c 1) (xt 4) (xc (D.bool false))]) SC.ret) SC.skip))) 13 [7,6,4,3,2,0,1]) [D.func (Fn.func 89) [] [D.ptr 0 0],D.agg [D.int .u8 k,D.int .i64 n,D.str s,D.slice a []],D.ptr 2 0,D.ptr 3 0,D.ptr 4 0,D.agg [D.int .u8 k,D.int .i64 n,D.str s,D.slice a []],D.func (Fn.func f) [] []]),(2,Ob.cells [D.bool false]),(3,Ob.cells [D.func (Fn.func f) [] []]),(4,Ob.cells [D.int .u8 k,D.int .i64 n,D.str s,D.slice a []])]) (Tr.ret (D.bool false) [])))
theorem CEv_eq (k n:Int) (s:List UInt8) (a:List (List D)) (f:FuncId) (b:Bool):goT Tryz.prog (ctr libT (QT.or subQ (asmI b))) 0 (finF false 0 rs43) 2000 [Fr.sc sc43] { tm:=envOf 0 ([]++[D.agg (tC k n s a),D.func (Fn.func f) [] []]++[]),ob:=[] }=CEv k n s a f b:=by kernel_rfl
section
variable {h:Tm->Bool} {f:FuncId} (H: ∀ x:Tm,x.wf 281474976710656->CallL Tryz.prog (.func (.func f) [] []) [.agg x.cells] [] fun r ob=>r= .bool (h x)/\ob=[])
include H
def obRv (k n:Int) (s:List UInt8) (a:List (List D)) (f:FuncId) (b:Bool):Obs:=match b with
 | true=>obVi k n s a f .ready none
 | false=>obVi k n s a f .done (some .ret)
theorem yldE_ok (k n:Int) (s:List UInt8) (a:List (List D)) (x:Tm) (hx:x.wf 281474976710656):CallL Tryz.prog (.yld 0) [.agg x.cells] (obVi k n s a f .ready none) fun r ob=>r= .bool (h x)/\ob=obRv k n s a f (h x):=by
 have hH:=H x hx
 generalize h x=b at hH ⊢
 obtain⟨kx,nx,sx,ax⟩:=x
 refine CallL.yldT hdraw (ctr_ok libT_ok (asmV_ok (.bool b))) rfl (TyE_eq kx nx sx (Tm.cellsL ax) k n s a f b) ?_
 unfold TyE
 rw[ok_owe,ok_br,ok_ret,ok_ret]
 refine⟨hH,fun hb=> ?_,fun hb=> ?_⟩
 ·cases b
  ·exact⟨rfl,rfl⟩
  ·cases hb
 ·cases b
  ·cases hb
  ·exact⟨rfl,rfl⟩
def VisC (h:Tm->Bool) (f:FuncId) (k n:Int) (s:List UInt8) (a:List (List D)) (x:Tm):Prop:=CallL Tryz.prog (.func (.func 90) [] []) [.agg x.cells,.yld 0] (obVi k n s a f .ready none) fun r ob=>r= .bool (x.all h)/\ob=obRv k n s a f (x.all h)
omit H in
theorem vis_at (k n:Int) (s:List UInt8) (a:List (List D)) (l:List Tm) (hl:l.length<=281474976710656) (HV: ∀ x∈l,VisC h f k n s a x): ∀ (m i:Nat),l.length-i=m->i<=l.length →
  At Tryz.prog 5 (cut sc90 0) (hdVi (Tm.cellsL l) l.length i (obVi k n s a f .ready none)) (FinQ false 5 rs90 fun r ob=>r= .bool (Tm.allL h (l.drop i))/\ob=obRv k n s a f (Tm.allL h (l.drop i))):=by
 intro m
 induction m with
 | zero =>
  intro i hm hi
  refine At.tree (ctr_ok libT_ok (asmB_ok true)) (CVi2_eq (Tm.cellsL l) l.length i 0 0 [] [] k n s a f true) ?_
  unfold CVi2
  rw[List.drop_eq_nil_of_le (by omega)]
  rw[ok_br]
  refine⟨fun h=> ?_,fun _=> ?_⟩
  ·have:=of_decide_eq_true h; omega
  ·rw[ok_ret]; exact⟨rfl,rfl⟩
 | succ m ih =>
  intro i hm hi
  have h1:i<l.length:=by omega
  have hx:(Tm.cellsL l)[i]? = some l[i].cells:=by rw[cellsL_map]; simp[h1]
  have hC:=HV _ (List.getElem_mem h1)
  have hd:l.drop i=l[i]::l.drop (i+1):=List.drop_eq_getElem_cons h1
  have hI:=ih (i+1) (by omega) (by omega)
  rw[hd]
  simp only[Tm.allL]
  unfold VisC at hC
  generalize Tm.all h l[i]=b at hC ⊢
  generalize l[i]=x at hx hC
  obtain⟨kx,nx,sx,ax⟩:=x
  refine At.tree (ctr_ok libT_ok (asmB_ok b)) (CVi2_eq (Tm.cellsL l) l.length i kx nx sx (Tm.cellsL ax) k n s a f b) ?_
  unfold CVi2
  rw[ok_br]
  refine⟨fun _=> ?_,fun h=> ?_⟩
  ·rw[ok_owe,Int.toNat_natCast]
   refine⟨⟨by omega,hx⟩, ?_⟩
   cases b
   ·rw[ok_false,ok_owe,ok_ret]
    exact⟨hC,rfl,rfl⟩
   ·rw[ok_true,ok_owe,ok_owe,ok_jmp,Bool.true_and]
    exact⟨hC,by omega,hI⟩
  ·have:=of_decide_eq_false h; omega
theorem vis_ok (k n:Int) (s:List UInt8) (a:List (List D)): ∀ x:Tm,x.wf 281474976710656->VisC h f k n s a x
 | .mk kx nx sx l,hx=>by
  have hy:=yldE_ok H k n s a (.mk kx nx sx l) hx
  simp only[Tm.wf] at hx
  obtain⟨hk,hn1,hn2,hs,hl,hw⟩:=hx
  have hA:=vis_at (h:=h) (f:=f) k n s a l hl (fun x hx=>vis_ok k n s a x (wfL_all.1 hw x hx)) _ 0 rfl (Nat.zero_le _)
  unfold VisC
  simp only[Tm.all]
  generalize h (.mk kx nx sx l)=b at hy ⊢
  refine CallL.tree hdraw fp90 (ctr_ok libT_ok (asmB_ok b)) (CVi_eq kx nx sx (Tm.cellsL l) k n s a f b) ?_
  unfold CVi
  cases b
  ·rw[ok_false,ok_owe,ok_ret,Bool.false_and]
   exact⟨hy,rfl,rfl⟩
  ·rw[ok_true,ok_owe,ok_jmp,Bool.true_and,cellsL_length]
   exact⟨hy,hA⟩
termination_by x=>SizeOf.sizeOf x
decreasing_by
 have:=List.sizeOf_lt_of_mem hx
 simp only[Tm.mk.sizeOf_spec]
 omega
theorem every_ok (x:Tm) (hx:x.wf 281474976710656):CallL Tryz.prog (.func (.func 43) [] []) [.agg x.cells,.func (.func f) [] []] [] fun r ob=>r= .bool (x.all h)/\ob=[]:=by
 obtain⟨k,n,s,l⟩:=x
 have hv:=vis_ok H k n s (Tm.cellsL l) (.mk k n s l) hx
 unfold VisC at hv
 generalize Tm.all h (.mk k n s l)=b at hv ⊢
 have hs:CallL Tryz.prog (.func (.func 89) [] [.ptr 0 0]) [.yld 1] (obEv k n s (Tm.cellsL l) f .ready none false) fun r ob=>r= .tuple []/\ob=match b with
   | true=>obEv k n s (Tm.cellsL l) f .ready none false
   | false=>obEv k n s (Tm.cellsL l) f .done (some .ret) false:=by
  refine CallL.tree hdraw fp89 (ctr_ok libT_ok (asmB_ok b)) (CSb1_eq k n s (Tm.cellsL l) f b) ?_
  unfold CSb1
  cases b
  ·rw[ok_false,ok_owe,ok_ret]
   exact⟨hv,rfl,rfl⟩
  ·rw[ok_true,ok_owe,ok_ret]
   exact⟨hv,rfl,rfl⟩
 refine CallL.tree hdraw fp43 (ctr_ok libT_ok (QT.or_ok subQ_ok (asmI_ok b))) (CEv_eq k n s (Tm.cellsL l) f b) ?_
 unfold CEv
 rw[ok_owe]
 refine⟨trivial, ?_⟩
 cases b
 ·rw[ok_false,ok_owe,ok_ret]
  exact⟨hs,rfl,rfl⟩
 ·rw[ok_true,ok_owe,ok_ret]
  exact⟨hs,rfl,rfl⟩
end
end Go.Proofs.YtfoklncmfoogcaaGreatDoor
