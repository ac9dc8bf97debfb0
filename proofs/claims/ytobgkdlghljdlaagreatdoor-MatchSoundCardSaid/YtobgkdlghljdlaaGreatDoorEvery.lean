/- Own work: a layer over the kit: plain data,a walk over it,its soundness. -/
import Derived.Test.YtobgkdlghljdlaaGreatDoorLibT
import Derived.Test.YtobgkdlghljdlaaGreatDoorSx8
set_option linter.unusedSectionVars false
set_option linter.unusedVariables false
set_option linter.unusedSimpArgs false
set_option linter.deprecated false
set_option maxRecDepth 100000
/- every,subterms,visit. -/
namespace Go.Proofs.YtobgkdlghljdlaaGreatDoor
open Go.Sx
def asmV (r:D):QT:=fun d xs ob=>match ob with
 | []=>some (.ok (CallL Tryz.prog d xs [] fun r0 ob0=>r0=r/\ob0=[]) r [])
 | _=>none
theorem asmV_ok (r:D):(asmV r).OK:=by
 intro d xs ob rt h
 unfold asmV at h
 split at h
 ·cases h; exact fun hp=>hp
 ·cases h
theorem CSub_eq (k n:Int) (s:LU) (a:LD):goT Tryz.prog (ctr libT) 0 (finF false 0 rs72) 2000 [Fr.sc sc72] { tm:=envOf 0 ([]++[dA [dU k,dI n,dS s,dL a []]]++[]),ob:=[] }=(Rt (dF 107 [] [dP 0 0]) [(0,oC [dU k,dI n,dS s,dL a []])]:Tr):=by kernel_rfl
def subQ:QT:=fun d xs ob=>match d,xs,ob with
 | .func (.func f) [] [],[.agg [.int .u8 k,.int .i64 n,.str s,.slice a []]],[]=>if f=72 then some (.ok True (.func (.func 107) [] [.ptr 0 0]) [(0,.cells [.int .u8 k,.int .i64 n,.str s,.slice a []])]) else none
 | _,_,_=>none
theorem subQ_ok:subQ.OK:=by
 intro d xs ob rt h
 unfold subQ at h
 split at h
 ·split at h
  ·rename_i hf
   subst hf
   cases h
   intro _
   exact CallL.tree hdraw fp72 (ctr_ok libT_ok qnone_ok) (CSub_eq _ _ _ _) ⟨rfl,rfl⟩
  ·cases h
 ·cases h
def keysEv:List Nat:=[7,6,4,3,2,0,1]
abbrev tC (k n:Int) (s:LU) (a:LD):List D:=[.int .u8 k,.int .i64 n,.str s,.slice a []]
def dsEv (k n:Int) (s:LU) (a:LD) (f:FuncId) (t0 q u v:Nat):List D:=[.func (.func 107) [] [.ptr t0 0],.agg (tC k n s a),.ptr q 0,.ptr u 0,.ptr v 0,.agg (tC k n s a),.func (.func f) [] []]
def recEv (st:LoopState) (pend:Option Code) (ds:List D):Ob:= .gen (.loop st pend #[8] (sc38.rngA 0) (sc38.rngB 0) 13 keysEv) ds
def obEv (k n:Int) (s:LU) (a:LD) (f:FuncId) (st:LoopState) (pend:Option Code) (b:Bool):Obs:=[(0,.cells (tC k n s a)),(1,recEv st pend (dsEv k n s a f 0 2 3 4)),(2,.cells [.bool b]),(3,.cells [.func (.func f) [] []]),(4,.cells (tC k n s a))]
def obVi (k n:Int) (s:LU) (a:LD) (f:FuncId) (st:LoopState) (pend:Option Code):Obs:=[(0,recEv st pend (dsEv k n s a f 1 2 3 4)),(1,.cells (tC k n s a)),(2,.cells [.bool false]),(3,.cells [.func (.func f) [] []]),(4,.cells (tC k n s a))]
def doneO:Obs->Obs
 | (i,.gen (.loop _ _ ps ra rb N ks) ds)::r=>(i,.gen (.loop .done (some .ret) ps ra rb N ks) ds)::r
 | ob=>ob
def asmB (b:Bool):QT:=fun d xs ob=>some (.br b (.ok (CallL Tryz.prog d xs ob fun r o=>r= .bool true/\o=ob) (.bool true) ob) (.ok (CallL Tryz.prog d xs ob fun r o=>r= .bool false/\o=doneO ob) (.bool false) (doneO ob)))
theorem asmB_ok (b:Bool):(asmB b).OK:=by
 intro d xs ob rt h
 cases h
 cases b
 ·exact fun hp=>hp
 ·exact fun hp=>hp
theorem CVi_eq (kx nx:Int) (sx:LU) (ax:LD) (k n:Int) (s:LU) (a:LD) (f:FuncId) (b:Bool):goT Tryz.prog (ctr libT (asmB b)) 5 (finF false 5 rs108) 2000 [Fr.sc sc108] { tm:=envOf 0 ([]++[dA (tC kx nx sx ax),D.yld 0]++[]),ob:=obVi k n s a f LoopState.ready none }=(brT b (Ow (CallL Tryz.prog (D.yld 0) [dA (tC kx nx sx ax)] [(0,Ob.gen (Gen.loop LoopState.ready none #[8] (SC.rngA sc38 0) (SC.rngB sc38 0) 13 [7,6,4,3,2,0,1]) [dF 107 [] [dP 1 0],dA (tC k n s a),dP 2 0,dP 3 0,dP 4 0,dA (tC k n s a),dF f [] []]),(1,oC (tC k n s a)),(2,oC [dB false]),(3,oC [dF f [] []]),(4,oC (tC k n s a))] fun r o=>r=dB true/\o=[(0,Ob.gen (Gen.loop LoopState.ready none #[8] (SC.rngA sc38 0) (SC.rngB sc38 0) 13 [7,6,4,3,2,0,1]) [dF 107 [] [dP 1 0],dA (tC k n s a),dP 2 0,dP 3 0,dP 4 0,dA (tC k n s a),dF f [] []]),(1,oC (tC k n s a)),(2,oC [dB false]),(3,oC [dF f [] []]),(4,oC (tC k n s a))]) (Jm (cut sc108 0) { tm:=[(1,D.yld 0),(12,dL ax []),(13,dI (↑(List.length ax):Int)),(14,dI (0:Int))],ob:=[(0,Ob.gen (Gen.loop LoopState.ready none #[8] (SC.rngA sc38 0) (SC.rngB sc38 0) 13 [7,6,4,3,2,0,1]) [dF 107 [] [dP 1 0],dA (tC k n s a),dP 2 0,dP 3 0,dP 4 0,dA (tC k n s a),dF f [] []]),(1,oC (tC k n s a)),(2,oC [dB false]),(3,oC [dF f [] []]),(4,oC (tC k n s a))] })) (Ow (CallL Tryz.prog (D.yld 0) [dA (tC kx nx sx ax)] [(0,Ob.gen (Gen.loop LoopState.ready none #[8] (SC.rngA sc38 0) (SC.rngB sc38 0) 13 [7,6,4,3,2,0,1]) [dF 107 [] [dP 1 0],dA (tC k n s a),dP 2 0,dP 3 0,dP 4 0,dA (tC k n s a),dF f [] []]),(1,oC (tC k n s a)),(2,oC [dB false]),(3,oC [dF f [] []]),(4,oC (tC k n s a))] fun r o=>r=dB false/\o=[(0,Ob.gen (Gen.loop LoopState.done (some Code.ret) #[8] (SC.rngA sc38 0) (SC.rngB sc38 0) 13 [7,6,4,3,2,0,1]) [dF 107 [] [dP 1 0],dA (tC k n s a),dP 2 0,dP 3 0,dP 4 0,dA (tC k n s a),dF f [] []]),(1,oC (tC k n s a)),(2,oC [dB false]),(3,oC [dF f [] []]),(4,oC (tC k n s a))]) (Rt (dB false) [(0,Ob.gen (Gen.loop LoopState.done (some Code.ret) #[8] (SC.rngA sc38 0) (SC.rngB sc38 0) 13 [7,6,4,3,2,0,1]) [dF 107 [] [dP 1 0],dA (tC k n s a),dP 2 0,dP 3 0,dP 4 0,dA (tC k n s a),dF f [] []]),(1,oC (tC k n s a)),(2,oC [dB false]),(3,oC [dF f [] []]),(4,oC (tC k n s a))])):Tr):=by kernel_rfl
theorem TyE_eq (kx nx:Int) (sx:LU) (ax:LD) (k n:Int) (s:LU) (a:LD) (f:FuncId) (b:Bool):yldT Tryz.prog (ctr libT (asmV (dB b))) 5 0 13 #[8] (SC.rngA sc38 0) (SC.rngB sc38 0) keysEv (dsEv k n s a f 1 2 3 4) 2000 { tm:=putP (List.zip [8] [dA (tC kx nx sx ax)]) (List.zip keysEv (dsEv k n s a f 1 2 3 4)),ob:=[(1,oC (tC k n s a)),(2,oC [dB false]),(3,oC [dF f [] []]),(4,oC (tC k n s a))] }=(Ow (CallL Tryz.prog (dF f [] []) [dA (tC kx nx sx ax)] [] fun r0 ob0=>r0=dB b/\ob0=[]) (brT (!b) (Rt (dB false) [(0,Ob.gen (Gen.loop LoopState.done (some Code.ret) #[8] (SC.rngA sc38 0) (SC.rngB sc38 0) 13 [7,6,4,3,2,0,1]) [dF 107 [] [dP 1 0],dA (tC k n s a),dP 2 0,dP 3 0,dP 4 0,dA (tC k n s a),dF f [] []]),(1,oC (tC k n s a)),(2,oC [dB false]),(3,oC [dF f [] []]),(4,oC (tC k n s a))]) (Rt (dB true) [(0,Ob.gen (Gen.loop LoopState.ready none #[8] (SC.rngA sc38 0) (SC.rngB sc38 0) 13 [7,6,4,3,2,0,1]) [dF 107 [] [dP 1 0],dA (tC k n s a),dP 2 0,dP 3 0,dP 4 0,dA (tC k n s a),dF f [] []]),(1,oC (tC k n s a)),(2,oC [dB false]),(3,oC [dF f [] []]),(4,oC (tC k n s a))])):Tr):=by kernel_rfl
def hdVi (ax:LD) (m i:Int) (ob:Obs):St:=⟨[(1,.yld 0),(12,.slice ax []),(13,.int .i64 m),(14,.int .i64 i)],ob⟩
theorem CVi2_eq (a':LD) (m i kx nx:Int) (sx:LU) (ax:LD) (k n:Int) (s:LU) (a:LD) (f:FuncId) (b:Bool):goT Tryz.prog (ctr libT (asmB b) fun x x_1=>tC kx nx sx ax) 5 (finF false 5 rs108) 2000 (cut sc108 0) (hdVi a' m i (obVi k n s a f LoopState.ready none))=(brT (decide (i<m)) (Ow ((0:Int)<=i/\a'[Int.toNat i]? = some (tC kx nx sx ax)) (brT b (Ow (CF 108 [dA (tC kx nx sx ax),D.yld 0] [(0,Ob.gen (Gen.loop LoopState.ready none #[8] (SC.rngA sc38 0) (SC.rngB sc38 0) 13 [7,6,4,3,2,0,1]) [dF 107 [] [dP 1 0],dA (tC k n s a),dP 2 0,dP 3 0,dP 4 0,dA (tC k n s a),dF f [] []]),(1,oC (tC k n s a)),(2,oC [dB false]),(3,oC [dF f [] []]),(4,oC (tC k n s a))] fun r o=>r=dB true/\o=[(0,Ob.gen (Gen.loop LoopState.ready none #[8] (SC.rngA sc38 0) (SC.rngB sc38 0) 13 [7,6,4,3,2,0,1]) [dF 107 [] [dP 1 0],dA (tC k n s a),dP 2 0,dP 3 0,dP 4 0,dA (tC k n s a),dF f [] []]),(1,oC (tC k n s a)),(2,oC [dB false]),(3,oC [dF f [] []]),(4,oC (tC k n s a))]) (Ow ((-9223372036854775808:Int)<=i+(1:Int)/\i+(1:Int)<=(9223372036854775807:Int)) (Jm (cut sc108 0) { tm:=[(1,D.yld 0),(12,dL a' []),(13,dI m),(14,dI (i+(1:Int)))],ob:=[(0,Ob.gen (Gen.loop LoopState.ready none #[8] (SC.rngA sc38 0) (SC.rngB sc38 0) 13 [7,6,4,3,2,0,1]) [dF 107 [] [dP 1 0],dA (tC k n s a),dP 2 0,dP 3 0,dP 4 0,dA (tC k n s a),dF f [] []]),(1,oC (tC k n s a)),(2,oC [dB false]),(3,oC [dF f [] []]),(4,oC (tC k n s a))] }))) (Ow (CF 108 [dA (tC kx nx sx ax),D.yld 0] [(0,Ob.gen (Gen.loop LoopState.ready none #[8] (SC.rngA sc38 0) (SC.rngB sc38 0) 13 [7,6,4,3,2,0,1]) [dF 107 [] [dP 1 0],dA (tC k n s a),dP 2 0,dP 3 0,dP 4 0,dA (tC k n s a),dF f [] []]),(1,oC (tC k n s a)),(2,oC [dB false]),(3,oC [dF f [] []]),(4,oC (tC k n s a))] fun r o=>r=dB false/\o=[(0,Ob.gen (Gen.loop LoopState.done (some Code.ret) #[8] (SC.rngA sc38 0) (SC.rngB sc38 0) 13 [7,6,4,3,2,0,1]) [dF 107 [] [dP 1 0],dA (tC k n s a),dP 2 0,dP 3 0,dP 4 0,dA (tC k n s a),dF f [] []]),(1,oC (tC k n s a)),(2,oC [dB false]),(3,oC [dF f [] []]),(4,oC (tC k n s a))]) (Rt (dB false) [(0,Ob.gen (Gen.loop LoopState.done (some Code.ret) #[8] (SC.rngA sc38 0) (SC.rngB sc38 0) 13 [7,6,4,3,2,0,1]) [dF 107 [] [dP 1 0],dA (tC k n s a),dP 2 0,dP 3 0,dP 4 0,dA (tC k n s a),dF f [] []]),(1,oC (tC k n s a)),(2,oC [dB false]),(3,oC [dF f [] []]),(4,oC (tC k n s a))])))) (Rt (dB true) [(0,Ob.gen (Gen.loop LoopState.ready none #[8] (SC.rngA sc38 0) (SC.rngB sc38 0) 13 [7,6,4,3,2,0,1]) [dF 107 [] [dP 1 0],dA (tC k n s a),dP 2 0,dP 3 0,dP 4 0,dA (tC k n s a),dF f [] []]),(1,oC (tC k n s a)),(2,oC [dB false]),(3,oC [dF f [] []]),(4,oC (tC k n s a))]):Tr):=by kernel_rfl
theorem CSb1_eq (k n:Int) (s:LU) (a:LD) (f:FuncId) (b:Bool):goT Tryz.prog (ctr libT (asmB b)) 5 (finF false 5 rs107) 2000 [Fr.sc sc107] { tm:=envOf 0 ([]++[D.yld 1]++[dP 0 0]),ob:=obEv k n s a f LoopState.ready none false }=(brT b (Ow (CF 108 [dA (tC k n s a),D.yld 0] [(0,Ob.gen (Gen.loop LoopState.ready none #[8] (SC.rngA sc38 0) (SC.rngB sc38 0) 13 [7,6,4,3,2,0,1]) [dF 107 [] [dP 1 0],dA (tC k n s a),dP 2 0,dP 3 0,dP 4 0,dA (tC k n s a),dF f [] []]),(1,oC (tC k n s a)),(2,oC [dB false]),(3,oC [dF f [] []]),(4,oC (tC k n s a))] fun r o=>r=dB true/\o=[(0,Ob.gen (Gen.loop LoopState.ready none #[8] (SC.rngA sc38 0) (SC.rngB sc38 0) 13 [7,6,4,3,2,0,1]) [dF 107 [] [dP 1 0],dA (tC k n s a),dP 2 0,dP 3 0,dP 4 0,dA (tC k n s a),dF f [] []]),(1,oC (tC k n s a)),(2,oC [dB false]),(3,oC [dF f [] []]),(4,oC (tC k n s a))]) (Rt (D.tuple []) [(0,oC (tC k n s a)),(1,Ob.gen (Gen.loop LoopState.ready none #[8] (SC.rngA sc38 0) (SC.rngB sc38 0) 13 [7,6,4,3,2,0,1]) [dF 107 [] [dP 0 0],dA (tC k n s a),dP 2 0,dP 3 0,dP 4 0,dA (tC k n s a),dF f [] []]),(2,oC [dB false]),(3,oC [dF f [] []]),(4,oC (tC k n s a))])) (Ow (CF 108 [dA (tC k n s a),D.yld 0] [(0,Ob.gen (Gen.loop LoopState.ready none #[8] (SC.rngA sc38 0) (SC.rngB sc38 0) 13 [7,6,4,3,2,0,1]) [dF 107 [] [dP 1 0],dA (tC k n s a),dP 2 0,dP 3 0,dP 4 0,dA (tC k n s a),dF f [] []]),(1,oC (tC k n s a)),(2,oC [dB false]),(3,oC [dF f [] []]),(4,oC (tC k n s a))] fun r o=>r=dB false/\o=[(0,Ob.gen (Gen.loop LoopState.done (some Code.ret) #[8] (SC.rngA sc38 0) (SC.rngB sc38 0) 13 [7,6,4,3,2,0,1]) [dF 107 [] [dP 1 0],dA (tC k n s a),dP 2 0,dP 3 0,dP 4 0,dA (tC k n s a),dF f [] []]),(1,oC (tC k n s a)),(2,oC [dB false]),(3,oC [dF f [] []]),(4,oC (tC k n s a))]) (Rt (D.tuple []) [(0,oC (tC k n s a)),(1,Ob.gen (Gen.loop LoopState.done (some Code.ret) #[8] (SC.rngA sc38 0) (SC.rngB sc38 0) 13 [7,6,4,3,2,0,1]) [dF 107 [] [dP 0 0],dA (tC k n s a),dP 2 0,dP 3 0,dP 4 0,dA (tC k n s a),dF f [] []]),(2,oC [dB false]),(3,oC [dF f [] []]),(4,oC (tC k n s a))])):Tr):=by kernel_rfl
def asmI (b:Bool):QT:=fun d xs ob=>match d,ob with
 | .func (.func _) [] [.ptr 0 0],(0,c)::(1,.gen (.loop _ _ ps ra rb N ks) ds)::r=>some (.br b (.ok (CallL Tryz.prog d xs ob fun r o=>r= .tuple []/\o=ob) (.tuple []) ob) (.ok (CallL Tryz.prog d xs ob fun r0 o=>r0= .tuple []/\o=(0,c)::(1,.gen (.loop .done (some .ret) ps ra rb N ks) ds)::r) (.tuple []) ((0,c)::(1,.gen (.loop .done (some .ret) ps ra rb N ks) ds)::r)))
 | _,_=>none
theorem asmI_ok (b:Bool):(asmI b).OK:=by
 intro d xs ob rt h
 unfold asmI at h
 split at h
 ·cases h
  cases b
  ·exact fun hp=>hp
  ·exact fun hp=>hp
 ·cases h
theorem CEv_eq (k n:Int) (s:LU) (a:LD) (f:FuncId) (b:Bool):goT Tryz.prog (ctr libT (QT.or subQ (asmI b))) 0 (finF false 0 rs38) 2000 [Fr.sc sc38] { tm:=envOf 0 ([]++[dA (tC k n s a),dF f [] []]++[]),ob:=[] }=(Ow True (brT b (Ow (CallL Tryz.prog (dF 107 [] [dP 0 0]) [D.yld 1] [(0,oC (tC k n s a)),(1,Ob.gen (Gen.loop LoopState.ready none #[8] (SC.reg [so 5 (AOp.alloc [dU (0:Int),dI (0:Int),dS [],D.nils]) [],SOp.st none (SK.c 4) (xt 5) (xt 8)]) (SC.block 1 (SC.seq (SC.reg [so 9 (AOp.load false 1) [xt 3],so 10 (AOp.load true 4) [xt 5],SOp.cd (some 11) none (xt 9) [xt 10],so 12 (AOp.un UnOp.not) [xt 11]]) (SC.cond (xt 12) (SC.seq (SC.reg [SOp.st none (SK.c 1) (xt 4) (xc (dB false))]) SC.ret) SC.skip))) 13 [7,6,4,3,2,0,1]) [dF 107 [] [dP 0 0],dA (tC k n s a),dP 2 0,dP 3 0,dP 4 0,dA (tC k n s a),dF f [] []]),(2,oC [dB false]),(3,oC [dF f [] []]),(4,oC (tC k n s a))] fun r o=>r=D.tuple []/\o=[(0,oC (tC k n s a)),(1,Ob.gen (Gen.loop LoopState.ready none #[8] (SC.reg [so 5 (AOp.alloc [dU (0:Int),dI (0:Int),dS [],D.nils]) [],SOp.st none (SK.c 4) (xt 5) (xt 8)]) (SC.block 1 (SC.seq (SC.reg [so 9 (AOp.load false 1) [xt 3],so 10 (AOp.load true 4) [xt 5],SOp.cd (some 11) none (xt 9) [xt 10],so 12 (AOp.un UnOp.not) [xt 11]]) (SC.cond (xt 12) (SC.seq (SC.reg [SOp.st none (SK.c 1) (xt 4) (xc (dB false))]) SC.ret) SC.skip))) 13 [7,6,4,3,2,0,1]) [dF 107 [] [dP 0 0],dA (tC k n s a),dP 2 0,dP 3 0,dP 4 0,dA (tC k n s a),dF f [] []]),(2,oC [dB false]),(3,oC [dF f [] []]),(4,oC (tC k n s a))]) (Rt (dB true) [])) (Ow (CallL Tryz.prog (dF 107 [] [dP 0 0]) [D.yld 1] [(0,oC (tC k n s a)),(1,Ob.gen (Gen.loop LoopState.ready none #[8] (SC.reg [so 5 (AOp.alloc [dU (0:Int),dI (0:Int),dS [],D.nils]) [],SOp.st none (SK.c 4) (xt 5) (xt 8)]) (SC.block 1 (SC.seq (SC.reg [so 9 (AOp.load false 1) [xt 3],so 10 (AOp.load true 4) [xt 5],SOp.cd (some 11) none (xt 9) [xt 10],so 12 (AOp.un UnOp.not) [xt 11]]) (SC.cond (xt 12) (SC.seq (SC.reg [SOp.st none (SK.c 1) (xt 4) (xc (dB false))]) SC.ret) SC.skip))) 13 [7,6,4,3,2,0,1]) [dF 107 [] [dP 0 0],dA (tC k n s a),dP 2 0,dP 3 0,dP 4 0,dA (tC k n s a),dF f [] []]),(2,oC [dB false]),(3,oC [dF f [] []]),(4,oC (tC k n s a))] fun r0 o=>r0=D.tuple []/\o=[(0,oC (tC k n s a)),(1,Ob.gen (Gen.loop LoopState.done (some Code.ret) #[8] (SC.reg [so 5 (AOp.alloc [dU (0:Int),dI (0:Int),dS [],D.nils]) [],SOp.st none (SK.c 4) (xt 5) (xt 8)]) (SC.block 1 (SC.seq (SC.reg [so 9 (AOp.load false 1) [xt 3],so 10 (AOp.load true 4) [xt 5],SOp.cd (some 11) none (xt 9) [xt 10],so 12 (AOp.un UnOp.not) [xt 11]]) (SC.cond (xt 12) (SC.seq (SC.reg [SOp.st none (SK.c 1) (xt 4) (xc (dB false))]) SC.ret) SC.skip))) 13 [7,6,4,3,2,0,1]) [dF 107 [] [dP 0 0],dA (tC k n s a),dP 2 0,dP 3 0,dP 4 0,dA (tC k n s a),dF f [] []]),(2,oC [dB false]),(3,oC [dF f [] []]),(4,oC (tC k n s a))]) (Rt (dB false) []))):Tr):=by kernel_rfl
section
variable {h:Tm->Bool} {f:FuncId} (H: ∀ x:Tm,x.wf 281474976710656->CallL Tryz.prog (.func (.func f) [] []) [.agg x.cells] [] fun r ob=>r= .bool (h x)/\ob=[])
include H
def obRv (k n:Int) (s:LU) (a:LD) (f:FuncId) (b:Bool):Obs:=match b with
 | true=>obVi k n s a f .ready none
 | false=>obVi k n s a f .done (some .ret)
theorem yldE_ok (k n:Int) (s:LU) (a:LD) (x:Tm) (hx:x.wf 281474976710656):CallL Tryz.prog (.yld 0) [.agg x.cells] (obVi k n s a f .ready none) fun r ob=>r= .bool (h x)/\ob=obRv k n s a f (h x):=by
 have hH:=H x hx
 generalize h x=b at hH ⊢
 obtain⟨kx,nx,sx,ax⟩:=x
 refine CallL.yldT hdraw (ctr_ok libT_ok (asmV_ok (.bool b))) rfl (TyE_eq kx nx sx (Tm.cellsL ax) k n s a f b) ?_
 rw[ok_owe,ok_br,ok_ret,ok_ret]
 refine⟨hH,fun hb=> ?_,fun hb=> ?_⟩
 ·cases b
  ·exact⟨rfl,rfl⟩
  ·cases hb
 ·cases b
  ·cases hb
  ·exact⟨rfl,rfl⟩
def VisC (h:Tm->Bool) (f:FuncId) (k n:Int) (s:LU) (a:LD) (x:Tm):Prop:=CF 108 [.agg x.cells,.yld 0] (obVi k n s a f .ready none) fun r ob=>r= .bool (x.all h)/\ob=obRv k n s a f (x.all h)
omit H in
theorem vis_at (k n:Int) (s:LU) (a:LD) (l:List Tm) (hl:l.length<=281474976710656) (HV: ∀ x∈l,VisC h f k n s a x): ∀ (m i:Nat),l.length-i=m->i<=l.length →
  At Tryz.prog 5 (cut sc108 0) (hdVi (Tm.cellsL l) l.length i (obVi k n s a f .ready none)) (FinQ false 5 rs108 fun r ob=>r= .bool (Tm.allL h (l.drop i))/\ob=obRv k n s a f (Tm.allL h (l.drop i))):=by
 intro m
 induction m with
 | zero =>
  intro i hm hi
  refine At.tree (ctr_ok libT_ok (asmB_ok true)) (CVi2_eq (Tm.cellsL l) l.length i 0 0 [] [] k n s a f true) ?_
  rw[List.drop_eq_nil_of_le (by omega)]
  rw[ok_br]
  refine⟨fun h=> ?_,fun _=> ?_⟩
  ·have:=of_decide_eq_true h; omega
  ·rw[ok_ret]; exact⟨rfl,rfl⟩
 | succ m ih =>
  intro i hm hi
  have h1:i<l.length:=by omega
  have hx:(Tm.cellsL l)[i]? = some l[i].cells:=by rw[cellsL_map]; simp[h1]
  have hC:=HV _ (List.getElem_mem h1)
  have hd:l.drop i=l[i]::l.drop (i+1):=List.drop_eq_getElem_cons h1
  have hI:=ih (i+1) (by omega) (by omega)
  rw[hd]
  simp only[Tm.allL]
  unfold VisC at hC
  generalize Tm.all h l[i]=b at hC ⊢
  generalize l[i]=x at hx hC
  obtain⟨kx,nx,sx,ax⟩:=x
  refine At.tree (ctr_ok libT_ok (asmB_ok b)) (CVi2_eq (Tm.cellsL l) l.length i kx nx sx (Tm.cellsL ax) k n s a f b) ?_
  rw[ok_br]
  refine⟨fun _=> ?_,fun h=> ?_⟩
  ·rw[ok_owe,Int.toNat_natCast]
   refine⟨⟨by omega,hx⟩, ?_⟩
   cases b
   ·rw[ok_false,ok_owe,ok_ret]
    exact⟨hC,rfl,rfl⟩
   ·rw[ok_true,ok_owe,ok_owe,ok_jmp,Bool.true_and]
    exact⟨hC,by omega,hI⟩
  ·have:=of_decide_eq_false h; omega
theorem vis_ok (k n:Int) (s:LU) (a:LD): ∀ x:Tm,x.wf 281474976710656->VisC h f k n s a x
 | .mk kx nx sx l,hx=>by
  have hy:=yldE_ok H k n s a (.mk kx nx sx l) hx
  simp only[Tm.wf] at hx
  obtain⟨hk,hn1,hn2,hs,hl,hw⟩:=hx
  have hA:=vis_at (h:=h) (f:=f) k n s a l hl (fun x hx=>vis_ok k n s a x (wfL_all.1 hw x hx)) _ 0 rfl (Nat.zero_le _)
  unfold VisC
  simp only[Tm.all]
  generalize h (.mk kx nx sx l)=b at hy ⊢
  refine CallL.tree hdraw fp108 (ctr_ok libT_ok (asmB_ok b)) (CVi_eq kx nx sx (Tm.cellsL l) k n s a f b) ?_
  cases b
  ·rw[ok_false,ok_owe,ok_ret,Bool.false_and]
   exact⟨hy,rfl,rfl⟩
  ·rw[ok_true,ok_owe,ok_jmp,Bool.true_and,cellsL_length]
   exact⟨hy,hA⟩
termination_by x=>SizeOf.sizeOf x
decreasing_by
 have:=List.sizeOf_lt_of_mem hx
 simp only[Tm.mk.sizeOf_spec]
 omega
theorem every_ok (x:Tm) (hx:x.wf 281474976710656):CF 38 [.agg x.cells,.func (.func f) [] []] [] fun r ob=>r= .bool (x.all h)/\ob=[]:=by
 obtain⟨k,n,s,l⟩:=x
 have hv:=vis_ok H k n s (Tm.cellsL l) (.mk k n s l) hx
 unfold VisC at hv
 generalize Tm.all h (.mk k n s l)=b at hv ⊢
 have hs:CallL Tryz.prog (.func (.func 107) [] [.ptr 0 0]) [.yld 1] (obEv k n s (Tm.cellsL l) f .ready none false) fun r ob=>r= .tuple []/\ob=match b with
   | true=>obEv k n s (Tm.cellsL l) f .ready none false
   | false=>obEv k n s (Tm.cellsL l) f .done (some .ret) false:=by
  refine CallL.tree hdraw fp107 (ctr_ok libT_ok (asmB_ok b)) (CSb1_eq k n s (Tm.cellsL l) f b) ?_
  cases b
  ·rw[ok_false,ok_owe,ok_ret]
   exact⟨hv,rfl,rfl⟩
  ·rw[ok_true,ok_owe,ok_ret]
   exact⟨hv,rfl,rfl⟩
 refine CallL.tree hdraw fp38 (ctr_ok libT_ok (QT.or_ok subQ_ok (asmI_ok b))) (CEv_eq k n s (Tm.cellsL l) f b) ?_
 rw[ok_owe]
 refine⟨trivial, ?_⟩
 cases b
 ·rw[ok_false,ok_owe,ok_ret]
  exact⟨hs,rfl,rfl⟩
 ·rw[ok_true,ok_owe,ok_ret]
  exact⟨hs,rfl,rfl⟩
end
end Go.Proofs.YtobgkdlghljdlaaGreatDoor
/- The words of terms. -/
namespace Go.Proofs.YtobgkdlghljdlaaGreatDoor
open Go.Sx
def tb (p:UInt8->Bool) (b:Int):Bool:=p (UInt8.ofNat b.toNat)
theorem tb_nat (p:UInt8->Bool) (b:UInt8):tb p (b.toNat:Int)=p b:=by simp[tb]
theorem tb_of (p:UInt8->Bool) (b:Int) (hb:0<=b/\b<256) {q:Int->Bool} (h:(List.range 256).all (fun n=>tb p (n:Int) == q (n:Int))=true):tb p b=q b:=by
 have:=List.all_eq_true.1 h b.toNat (List.mem_range.2 (by omega))
 rw[Int.toNat_of_nonneg hb.1] at this
 simpa using this
theorem Plow_eq (b:Int):goT Tryz.prog (ctr libT) 0 (finF true 0 rs110) 2000 [Fr.sc sc110] { tm:=envOf 0 [dU b],ob:=[] }=(brT (decide ((97:Int)<=b)) (Rt (dB (decide (b<=(122:Int)))) []) (Rt (dB false) []):Tr):=by kernel_rfl
theorem Pupp_eq (b:Int):goT Tryz.prog (ctr libT) 0 (finF true 0 rs55) 2000 [Fr.sc sc55] { tm:=envOf 0 [dU b],ob:=[] }=(brT (decide ((65:Int)<=b)) (Rt (dB (decide (b<=(90:Int)))) []) (Rt (dB false) []):Tr):=by kernel_rfl
theorem Pdig_eq (b:Int):goT Tryz.prog (ctr libT) 0 (finF true 0 rs57) 2000 [Fr.sc sc57] { tm:=envOf 0 [dU b],ob:=[] }=(brT (decide ((48:Int)<=b)) (Rt (dB (decide (b<=(57:Int)))) []) (Rt (dB false) []):Tr):=by kernel_rfl
theorem lowP_ok (b:Int) (hb:0<=b/\b<256):FK 110 [.int .u8 b] (.bool (tb Lx.isLow b)):=by
 refine FnOK.tree hdraw fp110 (ctr_ok libT_ok qnone_ok) (Plow_eq b) ?_
 rw[tb_of Lx.isLow b hb (q:=fun b=>decide (97<=b) && decide (b<=122)) (by kernel_rfl)]
 cases h:decide (97<=b) <;> simp[brT,ok_ret]
theorem uppP_ok (b:Int) (hb:0<=b/\b<256):FK 55 [.int .u8 b] (.bool (tb Lx.isUp b)):=by
 refine FnOK.tree hdraw fp55 (ctr_ok libT_ok qnone_ok) (Pupp_eq b) ?_
 rw[tb_of Lx.isUp b hb (q:=fun b=>decide (65<=b) && decide (b<=90)) (by kernel_rfl)]
 cases h:decide (65<=b) <;> simp[brT,ok_ret]
theorem digP_ok (b:Int) (hb:0<=b/\b<256):FK 57 [.int .u8 b] (.bool (tb Lx.isDig b)):=by
 refine FnOK.tree hdraw fp57 (ctr_ok libT_ok qnone_ok) (Pdig_eq b) ?_
 rw[tb_of Lx.isDig b hb (q:=fun b=>decide (48<=b) && decide (b<=57)) (by kernel_rfl)]
 cases h:decide (48<=b) <;> simp[brT,ok_ret]
def bytP:PT:=fun f xs=>match xs with
 | [.int .u8 b]=>if f=110 then some (.ok (0<=b/\b<256) (.bool (tb Lx.isLow b)) []) else if f=55 then some (.ok (0<=b/\b<256) (.bool (tb Lx.isUp b)) [])
  else if f=57 then some (.ok (0<=b/\b<256) (.bool (tb Lx.isDig b)) []) else none
 | _=>none
theorem bytP_ok:bytP.OK:=by
 intro f xs rt h
 unfold bytP at h
 split at h
 ·split at h
  ·rename_i hf; subst hf; cases h; exact fun hp=>lowP_ok _ hp
  split at h
  ·rename_i hf; subst hf; cases h; exact fun hp=>uppP_ok _ hp
  split at h
  ·rename_i hf; subst hf; cases h; exact fun hp=>digP_ok _ hp
  ·cases h
 ·cases h
theorem Clow_eq (b:Int):goT Tryz.prog (ctr libT) 0 (finF false 0 rs110) 2000 [Fr.sc sc110] { tm:=envOf 0 ([]++[dU b]++[]),ob:=[] }=(brT (decide ((97:Int)<=b)) (Rt (dB (decide (b<=(122:Int)))) []) (Rt (dB false) []):Tr):=by kernel_rfl
theorem Cupp_eq (b:Int):goT Tryz.prog (ctr libT) 0 (finF false 0 rs55) 2000 [Fr.sc sc55] { tm:=envOf 0 ([]++[dU b]++[]),ob:=[] }=(brT (decide ((65:Int)<=b)) (Rt (dB (decide (b<=(90:Int)))) []) (Rt (dB false) []):Tr):=by kernel_rfl
theorem Cdig_eq (b:Int):goT Tryz.prog (ctr libT) 0 (finF false 0 rs57) 2000 [Fr.sc sc57] { tm:=envOf 0 ([]++[dU b]++[]),ob:=[] }=(brT (decide ((48:Int)<=b)) (Rt (dB (decide (b<=(57:Int)))) []) (Rt (dB false) []):Tr):=by kernel_rfl
theorem Cins_eq (b:Int):goT Tryz.prog (ctr bytP) 0 (finF false 0 rs92) 2000 [Fr.sc sc92] { tm:=envOf 0 ([]++[dU b]++[]),ob:=[] }=(Ow ((0:Int)<=b/\b<(256:Int)) (brT (tb Lx.isLow b) (Rt (dB true) []) (Ow ((0:Int)<=b/\b<(256:Int)) (brT (tb Lx.isUp b) (Rt (dB true) []) (Ow ((0:Int)<=b/\b<(256:Int)) (brT (tb Lx.isDig b) (Rt (dB true) []) (Rt (dB (decide (b=(95:Int)))) [])))))):Tr):=by kernel_rfl
theorem lowC_ok (b:Int) (hb:0<=b/\b<256):CF 110 [.int .u8 b] [] fun r ob=>r= .bool (tb Lx.isLow b)/\ob=[]:=by
 refine CallL.tree hdraw fp110 (ctr_ok libT_ok qnone_ok) (Clow_eq b) ?_
 rw[tb_of Lx.isLow b hb (q:=fun b=>decide (97<=b) && decide (b<=122)) (by kernel_rfl)]
 cases h:decide (97<=b) <;> simp[brT,ok_ret]
theorem uppC_ok (b:Int) (hb:0<=b/\b<256):CF 55 [.int .u8 b] [] fun r ob=>r= .bool (tb Lx.isUp b)/\ob=[]:=by
 refine CallL.tree hdraw fp55 (ctr_ok libT_ok qnone_ok) (Cupp_eq b) ?_
 rw[tb_of Lx.isUp b hb (q:=fun b=>decide (65<=b) && decide (b<=90)) (by kernel_rfl)]
 cases h:decide (65<=b) <;> simp[brT,ok_ret]
theorem digC_ok (b:Int) (hb:0<=b/\b<256):CF 57 [.int .u8 b] [] fun r ob=>r= .bool (tb Lx.isDig b)/\ob=[]:=by
 refine CallL.tree hdraw fp57 (ctr_ok libT_ok qnone_ok) (Cdig_eq b) ?_
 rw[tb_of Lx.isDig b hb (q:=fun b=>decide (48<=b) && decide (b<=57)) (by kernel_rfl)]
 cases h:decide (48<=b) <;> simp[brT,ok_ret]
theorem insC_ok (b:Int) (hb:0<=b/\b<256):CF 92 [.int .u8 b] [] fun r ob=>r= .bool (tb Lx.isName b)/\ob=[]:=by
 refine CallL.tree hdraw fp92 (ctr_ok bytP_ok qnone_ok) (Cins_eq b) ?_
 rw[tb_of Lx.isName b hb (q:=fun b=>tb Lx.isLow b || tb Lx.isUp b || tb Lx.isDig b || decide (b=95)) (by kernel_rfl)]
 simp only[ok_br,ok_owe,ok_ret]
 refine⟨hb,fun h1=>by simp[h1],fun h1=>⟨hb,fun h2=>by simp[h2],fun h2=>⟨hb,fun h3=>by simp[h3],fun h3=>by simp[h1,h2,h3]⟩⟩⟩
def bytF (f:FuncId):Option (UInt8->Bool):=if f=110 then some Lx.isLow else if f=55 then some Lx.isUp else if f=57 then some Lx.isDig else if f=92 then some Lx.isName else none
theorem bytF_ok {f:FuncId} {p:UInt8->Bool} (h:bytF f=some p) (b:Int) (hb:0<=b/\b<256):CallL Tryz.prog (.func (.func f) [] []) [.int .u8 b] [] fun r ob=>r= .bool (tb p b)/\ob=[]:=by
 unfold bytF at h
 split at h
 ·rename_i hf; subst hf; cases h; exact lowC_ok b hb
 split at h
 ·rename_i hf; subst hf; cases h; exact uppC_ok b hb
 split at h
 ·rename_i hf; subst hf; cases h; exact digC_ok b hb
 split at h
 ·rename_i hf; subst hf; cases h; exact insC_ok b hb
 ·cases h
def bytQ:QT:=fun d xs ob=>match d,xs,ob with
 | .func (.func f) [] [],[.int .u8 b],[]=>match bytF f with
  | some p=>some (.ok (0<=b/\b<256) (.bool (tb p b)) [])
  | none=>none
 | _,_,_=>none
theorem bytQ_ok:bytQ.OK:=by
 intro d xs ob rt h
 unfold bytQ at h
 split at h
 ·split at h
  ·rename_i p hp; cases h; exact fun hb=>bytF_ok hp _ hb
  ·cases h
 ·cases h
theorem CallD_eq (s:LU):goT Tryz.prog (ctr libT bytQ) 0 (finF false 0 rs56) 2000 [Fr.sc sc56] { tm:=envOf 0 ([]++[dS s,dF 57 [] []]++[]),ob:=[] }=(Jm (cut sc56 0) { tm:=[(0,dS s),(1,dF 57 [] []),(7,dI (↑(List.length s):Int)),(8,dI (0:Int))],ob:=[] }:Tr):=by kernel_rfl
theorem CallI_eq (s:LU):goT Tryz.prog (ctr libT bytQ) 0 (finF false 0 rs56) 2000 [Fr.sc sc56] { tm:=envOf 0 ([]++[dS s,dF 92 [] []]++[]),ob:=[] }=(Jm (cut sc56 0) { tm:=[(0,dS s),(1,dF 92 [] []),(7,dI (↑(List.length s):Int)),(8,dI (0:Int))],ob:=[] }:Tr):=by kernel_rfl
def hdAll (f:FuncId) (s:LU) (i:Int):St:=⟨[(0,.str s),(1,.func (.func f) [] []),(7,.int .i64 s.length),(8,.int .i64 i)],[]⟩
theorem CallD2_eq (s:LU) (i:Int):goT Tryz.prog (ctr libT bytQ) 0 (finF false 0 rs56) 2000 (cut sc56 0) (hdAll 57 s i)=(brT (decide (i<(↑(List.length s):Int))) (Ow ((0:Int)<=i/\i<(↑(List.length s):Int)) (Ow ((0:Int)<=(↑(UInt8.toNat (List.getD s (Int.toNat i) (0:UInt8))):Int)/\(↑(UInt8.toNat (List.getD s (Int.toNat i) (0:UInt8))):Int)<(256:Int)) (brT (!tb Lx.isDig (↑(UInt8.toNat (List.getD s (Int.toNat i) (0:UInt8))):Int)) (Rt (dB false) []) (Ow ((-9223372036854775808:Int)<=i+(1:Int)/\i+(1:Int)<=(9223372036854775807:Int)) (Jm (cut sc56 0) { tm:=[(0,dS s),(1,dF 57 [] []),(7,dI (↑(List.length s):Int)),(8,dI (i+(1:Int)))],ob:=[] }))))) (Rt (dB true) []):Tr):=by kernel_rfl
theorem CallI2_eq (s:LU) (i:Int):goT Tryz.prog (ctr libT bytQ) 0 (finF false 0 rs56) 2000 (cut sc56 0) (hdAll 92 s i)=(brT (decide (i<(↑(List.length s):Int))) (Ow ((0:Int)<=i/\i<(↑(List.length s):Int)) (Ow ((0:Int)<=(↑(UInt8.toNat (List.getD s (Int.toNat i) (0:UInt8))):Int)/\(↑(UInt8.toNat (List.getD s (Int.toNat i) (0:UInt8))):Int)<(256:Int)) (brT (!tb Lx.isName (↑(UInt8.toNat (List.getD s (Int.toNat i) (0:UInt8))):Int)) (Rt (dB false) []) (Ow ((-9223372036854775808:Int)<=i+(1:Int)/\i+(1:Int)<=(9223372036854775807:Int)) (Jm (cut sc56 0) { tm:=[(0,dS s),(1,dF 92 [] []),(7,dI (↑(List.length s):Int)),(8,dI (i+(1:Int)))],ob:=[] }))))) (Rt (dB true) []):Tr):=by kernel_rfl
theorem all_drop {p:UInt8->Bool} {s:LU} {i:Nat} (h:i<s.length):(s.drop i).all p=(p (s.getD i 0) && (s.drop (i+1)).all p):=by
 rw[List.drop_eq_getElem_cons h,List.all_cons,List.getD_eq_getElem?_getD,List.getElem?_eq_getElem h]; rfl
theorem allD_at (s:LU) (hl:s.length<=4611686018427387904): ∀ (m i:Nat),s.length-i=m->i<=s.length →
  At Tryz.prog 0 (cut sc56 0) (hdAll 57 s i) (FinQ false 0 rs56 fun r ob=>r= .bool ((s.drop i).all Lx.isDig)/\ob=[]):=by
 intro m
 induction m with
 | zero =>
  intro i hm hi
  refine At.tree (ctr_ok libT_ok bytQ_ok) (CallD2_eq s i) ?_
  rw[List.drop_eq_nil_of_le (by omega)]
  simp only[SS]
  exact⟨fun h=>by omega,fun _=>rfl⟩
 | succ m ih =>
  intro i hm hi
  refine At.tree (ctr_ok libT_ok bytQ_ok) (CallD2_eq s i) ?_
  rw[all_drop (by omega)]
  simp only[SS,tb_nat]
  refine⟨fun _=>⟨by omega,byte_lt _ _,fun h=>by simp only[h,Bool.false_and],fun h=>⟨by omega, ?_⟩⟩,fun h=>by omega⟩
  rw[h,Bool.true_and]
  exact ih (i+1) (by omega) (by omega)
theorem allI_at (s:LU) (hl:s.length<=4611686018427387904): ∀ (m i:Nat),s.length-i=m->i<=s.length →
  At Tryz.prog 0 (cut sc56 0) (hdAll 92 s i) (FinQ false 0 rs56 fun r ob=>r= .bool ((s.drop i).all Lx.isName)/\ob=[]):=by
 intro m
 induction m with
 | zero =>
  intro i hm hi
  refine At.tree (ctr_ok libT_ok bytQ_ok) (CallI2_eq s i) ?_
  rw[List.drop_eq_nil_of_le (by omega)]
  simp only[SS]
  exact⟨fun h=>by omega,fun _=>rfl⟩
 | succ m ih =>
  intro i hm hi
  refine At.tree (ctr_ok libT_ok bytQ_ok) (CallI2_eq s i) ?_
  rw[all_drop (by omega)]
  simp only[SS,tb_nat]
  refine⟨fun _=>⟨by omega,byte_lt _ _,fun h=>by simp only[h,Bool.false_and],fun h=>⟨by omega, ?_⟩⟩,fun h=>by omega⟩
  rw[h,Bool.true_and]
  exact ih (i+1) (by omega) (by omega)
def allQ:QT:=fun d xs ob=>match d,xs,ob with
 | .func (.func f) [] [],[.str s,.func (.func g) [] []],[]=>if f=56 then (if g=57 then some (.ok (s.length<=4611686018427387904) (.bool (s.all Lx.isDig)) [])
   else if g=92 then some (.ok (s.length<=4611686018427387904) (.bool (s.all Lx.isName)) []) else none) else none
 | _,_,_=>none
theorem allQ_ok:allQ.OK:=by
 intro d xs ob rt h
 unfold allQ at h
 split at h
 ·rename_i f s g
  split at h
  ·rename_i hf
   subst hf
   split at h
   ·rename_i hg
    subst hg
    cases h
    exact fun hl=>CallL.tree hdraw fp56 (ctr_ok libT_ok bytQ_ok) (CallD_eq s) (allD_at s hl _ 0 rfl (Nat.zero_le _))
   split at h
   ·rename_i hg
    subst hg
    cases h
    exact fun hl=>CallL.tree hdraw fp56 (ctr_ok libT_ok bytQ_ok) (CallI_eq s) (allI_at s hl _ 0 rfl (Nat.zero_le _))
   ·cases h
  ·cases h
 ·cases h
end Go.Proofs.YtobgkdlghljdlaaGreatDoor
/- Symbol and Variable. -/
namespace Go.Proofs.YtobgkdlghljdlaaGreatDoor
open Go.Sx
theorem PhasP_eq (s t:LU):goT Tryz.prog (ctr libT) 0 (finF true 0 rs125) 2000 [Fr.sc sc125] { tm:=envOf 0 [dS s,dS t],ob:=[] }=(brT (decide ((↑(List.length t):Int)<=(↑(List.length s):Int))) (Ow ((0:Int)<=(0:Int)/\(0:Int)<=(↑(List.length t):Int)/\(↑(List.length t):Int)<=(↑(List.length s):Int)) (Rt (dB (decide (List.drop 0 (List.take (Int.toNat (↑(List.length t):Int)) s)=t))) [])) (Rt (dB false) []):Tr):=by kernel_rfl
theorem hasP_ok (s t:LU):FK 125 [.str s,.str t] (.bool (t.isPrefixOf s)):=by
 refine FnOK.tree hdraw fp125 (ctr_ok libT_ok qnone_ok) (PhasP_eq s t) ?_
 simp only[SS,Int.ofNat_le]
 refine⟨fun h=>⟨by omega, ?_⟩,fun h=> ?_⟩
 ·rw[Bool.eq_iff_iff,decide_eq_true_eq,List.isPrefixOf_iff_prefix,List.prefix_iff_eq_take]
  exact eq_comm
 ·rw[eq_comm,<- Bool.not_eq_true,List.isPrefixOf_iff_prefix]
  exact fun hp=>h hp.length_le
theorem Ptlb_eq (s:LU) (c:Int):goT Tryz.prog (ctr libT) 0 (finF true 0 rs126) 2000 [Fr.sc sc126] { tm:=envOf 0 [dS s,dU c],ob:=[] }=(Jm (cut sc126 0) { tm:=[(0,dS s),(1,dU c)],ob:=[] }:Tr):=by kernel_rfl
def hdTlb (s:LU) (c:Int):St:=⟨[(0,.str s),(1,.int .u8 c)],[]⟩
theorem Ptlb2_eq (s:LU) (c:Int):goT Tryz.prog (ctr libT) 0 (finF true 0 rs126) 2000 (cut sc126 0) (hdTlb s c)=(brT (decide ((0:Int)<(↑(List.length s):Int))) (Ow ((0:Int)<=(0:Int)/\(0:Int)<(↑(List.length s):Int)) (brT (decide ((↑(UInt8.toNat (List.getD s 0 (0:UInt8))):Int)=c)) (Ow ((0:Int)<=(1:Int)/\(1:Int)<=(↑(List.length s):Int)/\(↑(List.length s):Int)<=(↑(List.length s):Int)) (Jm (cut sc126 0) { tm:=[(0,dS (List.drop 1 (List.take (Int.toNat (↑(List.length s):Int)) s))),(1,dU c)],ob:=[] })) (Rt (dS s) []))) (Rt (dS s) []):Tr):=by kernel_rfl
theorem tlb_at (c:UInt8): ∀ (s:LU),At Tryz.prog 0 (cut sc126 0) (hdTlb s c.toNat) (FinQ true 0 rs126 fun r _=>r= .str (s.dropWhile (· == c)))
 | []=>by
  refine At.tree (ctr_ok libT_ok qnone_ok) (Ptlb2_eq [] c.toNat) ?_
  simp[ok_br,ok_owe,ok_ret]
 | b::r=>by
  refine At.tree (ctr_ok libT_ok qnone_ok) (Ptlb2_eq (b::r) c.toNat) ?_
  simp only[SS,List.length_cons,List.getD_cons_zero]
  refine⟨fun _=>⟨by omega,fun h=>⟨by omega, ?_⟩,fun h=> ?_⟩,fun h=>by omega⟩
  ·have hb:b=c:=UInt8.toNat_inj.1 (by omega)
   have:=tlb_at c r
   simp only[List.dropWhile_cons,hb,beq_self_eq_true,if_true]
   simpa [Int.toNat_natCast,hdTlb] using this
  ·have hb:b≠c:=fun h'=>h (by rw[h'])
   simp[List.dropWhile_cons,hb]
theorem tlb_ok (s:LU) (c:UInt8):FK 126 [.str s,.int .u8 c.toNat] (.str (s.dropWhile (· == c))) :=
 FnOK.tree hdraw fp126 (ctr_ok libT_ok qnone_ok) (Ptlb_eq s c.toNat) (tlb_at c s)
def strP:PT:=fun f xs=>if f=126 then match xs with
  | [.str s,.int .u8 c]=>some (.ok (0<=c/\c<256) (.str (s.dropWhile (· == UInt8.ofNat c.toNat))) [])
  | _=>none
 else if f=125 then match xs with
  | [.str s,.str t]=>some (.ok True (.bool (t.isPrefixOf s)) [])
  | _=>none
 else none
theorem strP_ok:strP.OK:=by
 intro f xs rt h
 unfold strP at h
 split at h
 ·rename_i hf; subst hf
  split at h
  ·rename_i s c
   cases h
   intro hc
   have:=tlb_ok s (UInt8.ofNat c.toNat)
   rwa [show ((UInt8.ofNat c.toNat).toNat:Int)=c by rw[UInt8.toNat_ofNat_of_lt' (by show _<256; omega)]; omega] at this
  ·cases h
 split at h
 ·rename_i hf; subst hf
  split at h
  ·cases h; exact fun _=>hasP_ok _ _
  ·cases h
 ·cases h
theorem PTrimL_eq (s:LU):goT Tryz.prog (ctr strP) 0 (finF true 0 rs91) 2000 [Fr.sc sc91] { tm:=envOf 0 [dS s,dS [(95:UInt8)]],ob:=[] }=(brT (decide (s=[])) (Rt (dS s) []) (Ow ((0:Int)<=(0:Int)/\(0:Int)<(1:Int)) (Ow ((0:Int)<=(0:Int)/\(0:Int)<(1:Int)) (Ow ((0:Int)<=(95:Int)/\(95:Int)<(256:Int)) (Rt (dS (List.dropWhile (fun x=>x == UInt8.ofNat 95) s)) [])))):Tr):=by kernel_rfl
theorem trimL_ok (s:LU):FK 91 [.str s,.str [95]] (.str (s.dropWhile Lx.isUnd)):=by
 refine FnOK.tree hdraw fp91 (ctr_ok strP_ok qnone_ok) (PTrimL_eq s) ?_
 simp only[SS]
 refine⟨fun h=>by rw[h]; rfl,fun h=>⟨by decide,by decide,by decide,rfl⟩⟩
theorem PcutP_eq (s t:LU):goT Tryz.prog (ctr strP) 0 (finF true 0 rs90) 2000 [Fr.sc sc90] { tm:=envOf 0 [dS s,dS t],ob:=[] }=(Ow True (brT (!List.isPrefixOf t s) (Rt (D.tuple [dS s,dB false]) []) (Ow ((0:Int)<=(↑(List.length t):Int)/\(↑(List.length t):Int)<=(↑(List.length s):Int)/\(↑(List.length s):Int)<=(↑(List.length s):Int)) (Rt (D.tuple [dS (List.drop (Int.toNat (↑(List.length t):Int)) (List.take (Int.toNat (↑(List.length s):Int)) s)),dB true]) []))):Tr):=by kernel_rfl
theorem cutP_ok (s t:LU):FK 90 [.str s,.str t] (if t.isPrefixOf s=true then .tuple [.str (s.drop t.length),.bool true] else .tuple [.str s,.bool false]):=by
 refine FnOK.tree hdraw fp90 (ctr_ok strP_ok qnone_ok) (PcutP_eq s t) ?_
 simp only[SS]
 refine⟨fun h=>by rw[if_neg (by simp[h])],fun h=> ?_⟩
 have hl:=(List.isPrefixOf_iff_prefix.1 h).length_le
 rw[if_pos h]
 exact⟨by omega,rfl⟩
def cutPP:PT:=fun f xs=>if f=90 then match xs with
  | [.str s,.str t]=>some (.br (t.isPrefixOf s) (.ok True (.tuple [.str (s.drop t.length),.bool true]) []) (.ok True (.tuple [.str s,.bool false]) []))
  | _=>none
 else if f=91 then match xs with
  | [.str s,.str [95]]=>some (.ok True (.str (s.dropWhile Lx.isUnd)) [])
  | _=>none
 else none
theorem cutPP_ok:cutPP.OK:=by
 intro f xs rt h
 unfold cutPP at h
 split at h
 ·rename_i hf; subst hf
  split at h
  ·rename_i s t
   cases h
   have:=cutP_ok s t
   cases hp:t.isPrefixOf s <;> (rw[hp] at this; exact fun _=>this)
  ·cases h
 split at h
 ·rename_i hf; subst hf
  split at h
  ·cases h; exact fun _=>trimL_ok _
  ·cases h
 ·cases h
theorem PcutP2_eq (s t:LU):goT Tryz.prog (ctr cutPP) 0 (finF true 0 rs53) 2000 [Fr.sc sc53] { tm:=envOf 0 [dS s,dS t],ob:=[] }=(brT (List.isPrefixOf t s) (Ow True (Rt (D.tuple [dS (List.drop (List.length t) s),dB true]) [])) (Ow True (Rt (D.tuple [dS s,dB false]) [])):Tr):=by kernel_rfl
theorem cutP2_ok (s t:LU):FK 53 [.str s,.str t] (if t.isPrefixOf s=true then .tuple [.str (s.drop t.length),.bool true] else .tuple [.str s,.bool false]):=by
 refine FnOK.tree hdraw fp53 (ctr_ok cutPP_ok qnone_ok) (PcutP2_eq s t) ?_
 simp only[SS]
 exact⟨fun h=>by rw[if_pos h],fun h=>by rw[if_neg (by simp[h])]⟩
def wqQ:QT:=bytQ.or allQ
theorem wqQ_ok:wqQ.OK:=QT.or_ok bytQ_ok allQ_ok
noncomputable def CwordL (s:LU):Tr:=Ow True (brT (!decide (List.dropWhile Lx.isUnd s=[])) (Ow ((0:Int)<=(0:Int)/\(0:Int)<(↑(List.length (List.dropWhile Lx.isUnd s)):Int)) (Ow ((0:Int)<=(↑(UInt8.toNat (List.getD (List.dropWhile Lx.isUnd s) 0 (0:UInt8))):Int)/\(↑(UInt8.toNat (List.getD (List.dropWhile Lx.isUnd s) 0 (0:UInt8))):Int)<(256:Int)) (brT (tb Lx.isLow (↑(UInt8.toNat (List.getD (List.dropWhile Lx.isUnd s) 0 (0:UInt8))):Int)) (Ow (List.length (List.dropWhile Lx.isUnd s)<=4611686018427387904) (brT (List.all (List.dropWhile Lx.isUnd s) Lx.isName) (Rt (dB (decide ((↑(List.length s):Int)<=(32:Int)))) []) (Rt (dB false) []))) (Rt (dB false) [])))) (Rt (dB false) []))
theorem CwordL_eq (s:LU):goT Tryz.prog (ctr cutPP wqQ) 0 (finF false 0 rs54) 2000 [Fr.sc sc54] { tm:=envOf 0 ([]++[dS s,dF 110 [] []]++[]),ob:=[] }=CwordL s:=by kernel_rfl
noncomputable def CwordU (s:LU):Tr:=Ow True (brT (!decide (List.dropWhile Lx.isUnd s=[])) (Ow ((0:Int)<=(0:Int)/\(0:Int)<(↑(List.length (List.dropWhile Lx.isUnd s)):Int)) (Ow ((0:Int)<=(↑(UInt8.toNat (List.getD (List.dropWhile Lx.isUnd s) 0 (0:UInt8))):Int)/\(↑(UInt8.toNat (List.getD (List.dropWhile Lx.isUnd s) 0 (0:UInt8))):Int)<(256:Int)) (brT (tb Lx.isUp (↑(UInt8.toNat (List.getD (List.dropWhile Lx.isUnd s) 0 (0:UInt8))):Int)) (Ow (List.length (List.dropWhile Lx.isUnd s)<=4611686018427387904) (brT (List.all (List.dropWhile Lx.isUnd s) Lx.isName) (Rt (dB (decide ((↑(List.length s):Int)<=(32:Int)))) []) (Rt (dB false) []))) (Rt (dB false) [])))) (Rt (dB false) []))
theorem CwordU_eq (s:LU):goT Tryz.prog (ctr cutPP wqQ) 0 (finF false 0 rs54) 2000 [Fr.sc sc54] { tm:=envOf 0 ([]++[dS s,dF 55 [] []]++[]),ob:=[] }=CwordU s:=by kernel_rfl
theorem drop_ne {p:UInt8->Bool} {s:LU} (h: ¬ s.dropWhile p=[]): ∃ b r,s.dropWhile p=b::r:=by
 cases hd:s.dropWhile p with
 | nil=>exact (h hd).elim
 | cons b r=>exact⟨b,r,rfl⟩
theorem wordL_ok (s:LU) (hl:s.length<=4611686018427387904):CF 54 [.str s,.func (.func 110) [] []] [] fun r ob=>r= .bool (Lx.wordB Lx.isLow s)/\ob=[]:=by
 refine CallL.tree hdraw fp54 (ctr_ok cutPP_ok wqQ_ok) (CwordL_eq s) ?_
 unfold CwordL Lx.wordB
 simp only[SS]
 refine⟨fun h=> ?_,fun h=>by rw[h]⟩
 obtain⟨b,r,hd⟩:=drop_ne h
 have h1:=(List.dropWhile_sublist (l:=s) Lx.isUnd).length_le
 rw[hd] at h1 ⊢
 simp only[List.length_cons,List.getD_cons_zero,tb_nat]
 rw[List.length_cons] at h1
 exact⟨by omega,⟨by omega,by have:=b.toNat_lt; omega⟩,fun h2=>⟨by omega,fun h3=>by simp only[h2,h3,Bool.true_and,Int.ofNat_le,show (32:Int)=((32:Nat):Int) from rfl],fun h3=>by simp only[h3,Bool.and_false,Bool.false_and]⟩,fun h2=>by simp only[h2,Bool.false_and]⟩
theorem wordU_ok (s:LU) (hl:s.length<=4611686018427387904):CF 54 [.str s,.func (.func 55) [] []] [] fun r ob=>r= .bool (Lx.wordB Lx.isUp s)/\ob=[]:=by
 refine CallL.tree hdraw fp54 (ctr_ok cutPP_ok wqQ_ok) (CwordU_eq s) ?_
 unfold CwordU Lx.wordB
 simp only[SS]
 refine⟨fun h=> ?_,fun h=>by rw[h]⟩
 obtain⟨b,r,hd⟩:=drop_ne h
 have h1:=(List.dropWhile_sublist (l:=s) Lx.isUnd).length_le
 rw[hd] at h1 ⊢
 simp only[List.length_cons,List.getD_cons_zero,tb_nat]
 rw[List.length_cons] at h1
 exact⟨by omega,⟨by omega,by have:=b.toNat_lt; omega⟩,fun h2=>⟨by omega,fun h3=>by simp only[h2,h3,Bool.true_and,Int.ofNat_le,show (32:Int)=((32:Nat):Int) from rfl],fun h3=>by simp only[h3,Bool.and_false,Bool.false_and]⟩,fun h2=>by simp only[h2,Bool.false_and]⟩
def wordQ:QT:=fun d xs ob=>match d,xs,ob with
 | .func (.func f) [] [],[.str s,.func (.func g) [] []],[]=>if f=54 then (if g=110 then some (.ok (s.length<=4611686018427387904) (.bool (Lx.wordB Lx.isLow s)) [])
   else if g=55 then some (.ok (s.length<=4611686018427387904) (.bool (Lx.wordB Lx.isUp s)) []) else none) else none
 | _,_,_=>none
theorem wordQ_ok:wordQ.OK:=by
 intro d xs ob rt h
 unfold wordQ at h
 split at h
 ·split at h
  ·rename_i hf
   subst hf
   split at h
   ·rename_i hg; subst hg; cases h; exact fun hl=>wordL_ok _ hl
   split at h
   ·rename_i hg; subst hg; cases h; exact fun hl=>wordU_ok _ hl
   ·cases h
  ·cases h
 ·cases h
def cut2P:PT:=fun f xs=>if f=53 then match xs with
  | [.str s,.str t]=>some (.br (t.isPrefixOf s) (.ok True (.tuple [.str (s.drop t.length),.bool true]) []) (.ok True (.tuple [.str s,.bool false]) []))
  | _=>none
 else none
theorem cut2P_ok:cut2P.OK:=by
 intro f xs rt h
 unfold cut2P at h
 split at h
 ·rename_i hf; subst hf
  split at h
  ·rename_i s t
   cases h
   have:=cutP2_ok s t
   cases hp:t.isPrefixOf s <;> (rw[hp] at this; exact fun _=>this)
  ·cases h
 ·cases h
def wq2:QT:=wordQ.or allQ
theorem wq2_ok:wq2.OK:=QT.or_ok wordQ_ok allQ_ok
noncomputable def PSym (s:LU):Tr:=Ow (List.length s<=4611686018427387904) (brT (Lx.wordB Lx.isLow s) (Rt (D.bool !decide (s=[(110:UInt8),(111:UInt8),(116:UInt8)])) []) (Rt (dB false) []))
theorem PSym_eq (s:LU):goT Tryz.prog (ctr libT wq2) 0 (finF true 0 rs77) 2000 [Fr.sc sc77] { tm:=envOf 0 [dS s],ob:=[] }=PSym s:=by kernel_rfl
noncomputable def PVar (s:LU):Tr:=brT (List.isPrefixOf [(95:UInt8)] s) (Ow True (Ow (List.length s<=4611686018427387904) (brT (Lx.wordB Lx.isUp s) (Rt (dB true) []) (Ow (List.length (List.drop 1 s)<=4611686018427387904) (brT (List.all (List.drop 1 s) Lx.isDig) (Rt (dB (decide ((↑(List.length s):Int)<=(32:Int)))) []) (Rt (dB false) [])))))) (Ow True (Ow (List.length s<=4611686018427387904) (brT (Lx.wordB Lx.isUp s) (Rt (dB true) []) (Rt (dB false) []))))
theorem PVar_eq (s:LU):goT Tryz.prog (ctr cut2P wq2) 0 (finF true 0 rs26) 2000 [Fr.sc sc26] { tm:=envOf 0 [dS s],ob:=[] }=PVar s:=by kernel_rfl
theorem symbol_ok (s:LU) (hl:s.length<=4611686018427387904):FK 77 [.str s] (.bool (Lx.symbolB s)):=by
 refine FnOK.tree hdraw fp77 (ctr_ok libT_ok wq2_ok) (PSym_eq s) ?_
 unfold PSym Lx.symbolB
 simp only[SS]
 refine⟨hl,fun h=> ?_,fun h=>by simp only[h,Bool.false_and]⟩
 simp only[h,Bool.true_and,Lx.notS]
 exact (decide_not (p:=s=[110,111,116])).symm
theorem variable_ok (s:LU) (hl:s.length<=4611686018427387904):FK 26 [.str s] (.bool (Lx.variableB s)):=by
 refine FnOK.tree hdraw fp26 (ctr_ok cut2P_ok wq2_ok) (PVar_eq s) ?_
 unfold PVar Lx.variableB
 simp only[SS]
 have hd:(s.drop 1).length<=s.length:=by simp
 have h0:List.isPrefixOf [95] s=true-> ∃ r,s=95::r:=fun h=>by
  obtain⟨t,ht⟩:=List.isPrefixOf_iff_prefix.1 h
  exact⟨t,ht.symm⟩
 have h0':List.isPrefixOf [95] s=false-> ∀ r,s≠95::r:=fun h r hr=>by rw[hr] at h; simp[List.isPrefixOf] at h
 refine⟨fun h=>⟨hl,fun hw=>by simp only[hw,Bool.true_or],fun hw=> ?_⟩,fun h=>⟨hl,fun hw=>by simp only[hw,Bool.true_or],fun hw=> ?_⟩⟩
 ·obtain⟨r,rfl⟩:=h0 h
  simp only[List.length_cons,List.length_nil,List.drop_succ_cons,List.drop_zero] at hd hl ⊢
  exact⟨by omega,fun ha=>by simp only[hw,ha,Bool.false_or,Bool.true_and,Int.ofNat_le,show (32:Int)=((32:Nat):Int) from rfl],fun ha=>by simp only[hw,ha,Bool.false_or,Bool.false_and]⟩
 ·simp only[hw,Bool.false_or]
  split
  ·rename_i r; exact absurd rfl (h0' h r)
  ·rfl
end Go.Proofs.YtobgkdlghljdlaaGreatDoor
