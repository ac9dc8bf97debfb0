/- Depth,shape. -/
import Derived.Lib.IndexMore
import Derived.Test.YtfoklncmfoogcaaGreatDoorEvery
import Derived.Test.YtfoklncmfoogcaaGreatDoorWord2
set_option linter.unusedSectionVars false
set_option linter.unusedVariables false
set_option linter.unusedSimpArgs false
set_option linter.deprecated false
set_option maxRecDepth 100000
namespace Go.Proofs.YtfoklncmfoogcaaGreatDoor
open Go.Sx
def dCtr (l:List (Nat × D)) (e:List (Nat × List D):=[]) (q:QT:=qnone):Ctr:=⟨fun t f az=>match lk l t with | some r=>some (.ok (FnOK Tryz.prog f az r) r []) | none=>none,fun _=>q,fun t _=>(lk e t).getD []⟩
theorem dCtr_ok {l:List (Nat × D)} {e:List (Nat × List D)} {q:QT} (hq:q.OK):(dCtr l e q).OK Tryz.prog:=by
 refine⟨fun t f az rt h=> ?_,fun _=>hq⟩
 simp only[dCtr] at h
 split at h
 ·cases h; exact fun hp=>hp
 ·cases h
def asmK (r:D):QT:=fun d xs ob=>some (.ok (CallL Tryz.prog d xs ob fun r0 o=>r0=r/\o=ob) r ob)
theorem asmK_ok (r:D):(asmK r).OK:=by intro d xs ob rt h; cases h; exact fun hp=>hp
noncomputable def PDep (k n:Int) (s:List UInt8) (a:List (List D)):Tr:=Tr.jmp (cut sc42 0) { tm:=[(3,D.int .i64 (0:Int)),(7,D.slice a []),(8,D.int .i64 (↑(List.length a):Int)),(9,D.int .i64 (0:Int))],ob:=[] }
theorem PDep_eq (k n:Int) (s:List UInt8) (a:List (List D)):goT Tryz.prog (dCtr []) 0 (finF true 0 rs42) 2000 [Fr.sc sc42] { tm:=envOf 0 [D.agg (tC k n s a)],ob:=[] }=PDep k n s a:=by kernel_rfl
def hdDe (a:List (List D)) (m d i:Int):St:=⟨[(3,.int .i64 d),(7,.slice a []),(8,.int .i64 m),(9,.int .i64 i)],[]⟩
noncomputable def PDep2 (a':List (List D)) (m d i kx nx:Int) (sx:List UInt8) (ax:List (List D)) (c q:Int):Tr:=brT (decide (i<m)) (Tr.owe ((0:Int)<=i/\a'[Int.toNat i]? = some [D.int .u8 kx,D.int .i64 nx,D.str sx,D.slice ax []]) (Tr.owe (FnOK Tryz.prog 42 [D.agg [D.int .u8 kx,D.int .i64 nx,D.str sx,D.slice ax []]] (D.int .i64 c)) (Tr.owe (IntKind.i64=IntKind.i64/\(if true=true then if c > d then c else d else if c<d then c else d)=q) (Tr.owe ((-9223372036854775808:Int)<=i+(1:Int)/\i+(1:Int)<=(9223372036854775807:Int)) (Tr.jmp (cut sc42 0) { tm:=[(3,D.int .i64 q),(7,D.slice a' []),(8,D.int .i64 m),(9,D.int .i64 (i+(1:Int)))],ob:=[] }))))) (Tr.owe ((-9223372036854775808:Int)<=d+(1:Int)/\d+(1:Int)<=(9223372036854775807:Int)) (Tr.ret (D.int .i64 (d+(1:Int))) []))
theorem PDep2_eq (a':List (List D)) (m d i kx nx:Int) (sx:List UInt8) (ax:List (List D)) (c q:Int):goT Tryz.prog (dCtr [(15,D.int .i64 c)] [(11,tC kx nx sx ax),(16,[D.int .i64 q])]) 0 (finF true 0 rs42) 2000 (cut sc42 0) (hdDe a' m d i)=PDep2 a' m d i kx nx sx ax c q:=by kernel_rfl
noncomputable def PArg (k n:Int) (s:List UInt8) (a:List (List D)) (lo hi:Int):Tr:=brT (decide (lo<=(↑(List.length a):Int))) (Tr.ret (D.bool (decide ((↑(List.length a):Int)<=hi))) []) (Tr.ret (D.bool false) [])
theorem PArg_eq (k n:Int) (s:List UInt8) (a:List (List D)) (lo hi:Int):goT Tryz.prog (dCtr []) 0 (finF true 0 rs67) 2000 [Fr.sc sc67] { tm:=envOf 0 [D.agg (tC k n s a),D.int .i64 lo,D.int .i64 hi],ob:=[] }=PArg k n s a lo hi:=by kernel_rfl
noncomputable def CS1 (k n:Int) (s:List UInt8) (a:List (List D)) (b:Bool):Tr:=brT (decide ((-2147483647:Int)<=n)) (brT (decide (n<=(2147483647:Int))) (brT (decide (s=[])) (Tr.owe (FnOK Tryz.prog 67 [D.agg [D.int .u8 k,D.int .i64 n,D.str s,D.slice a []],D.int .i64 (0:Int),D.int .i64 (0:Int)] (D.bool b)) (Tr.ret (D.bool b) [(0,Ob.cells [D.int .u8 k,D.int .i64 n,D.str s,D.slice a []])])) (Tr.ret (D.bool false) [(0,Ob.cells [D.int .u8 k,D.int .i64 n,D.str s,D.slice a []])])) (Tr.ret (D.bool false) [(0,Ob.cells [D.int .u8 k,D.int .i64 n,D.str s,D.slice a []])])) (Tr.ret (D.bool false) [(0,Ob.cells [D.int .u8 k,D.int .i64 n,D.str s,D.slice a []])])
theorem CS1_eq (k n:Int) (s:List UInt8) (a:List (List D)) (b:Bool):goT Tryz.prog (dCtr [(20,D.bool b)]) 1 (finF false 1 rs66) 2000 [Fr.sc sc66] { tm:=envOf 0 ([]++[]++[D.ptr 0 0]),ob:=[(0,Ob.cells (tC k n s a))] }=CS1 k n s a b:=by kernel_rfl
noncomputable def CS2 (k n:Int) (s:List UInt8) (a:List (List D)) (nb y b:Bool):Tr:=brT nb (Tr.owe (FnOK Tryz.prog 69 [D.str s] (D.bool y)) (brT y (Tr.owe (FnOK Tryz.prog 67 [D.agg [D.int .u8 k,D.int .i64 n,D.str s,D.slice a []],D.int .i64 (0:Int),D.int .i64 (0:Int)] (D.bool b)) (Tr.ret (D.bool b) [(0,Ob.cells [D.bool nb]),(1,Ob.cells [D.int .u8 k,D.int .i64 n,D.str s,D.slice a []])])) (Tr.ret (D.bool false) [(0,Ob.cells [D.bool nb]),(1,Ob.cells [D.int .u8 k,D.int .i64 n,D.str s,D.slice a []])]))) (Tr.ret (D.bool false) [(0,Ob.cells [D.bool nb]),(1,Ob.cells [D.int .u8 k,D.int .i64 n,D.str s,D.slice a []])])
theorem CS2_eq (k n:Int) (s:List UInt8) (a:List (List D)) (nb y b:Bool):goT Tryz.prog (dCtr [(8,D.bool y),(12,D.bool b)]) 2 (finF false 2 rs68) 2000 [Fr.sc sc68] { tm:=envOf 0 ([]++[]++[D.ptr 0 0,D.ptr 1 0]),ob:=[(0,Ob.cells [D.bool nb]),(1,Ob.cells (tC k n s a))] }=CS2 k n s a nb y b:=by kernel_rfl
noncomputable def CS3 (k n:Int) (s:List UInt8) (a:List (List D)) (nb y b:Bool):Tr:=brT nb (Tr.owe (FnOK Tryz.prog 71 [D.str s] (D.bool y)) (brT y (Tr.owe (FnOK Tryz.prog 67 [D.agg [D.int .u8 k,D.int .i64 n,D.str s,D.slice a []],D.int .i64 (0:Int),D.int .i64 (0:Int)] (D.bool b)) (Tr.ret (D.bool b) [(0,Ob.cells [D.bool nb]),(1,Ob.cells [D.int .u8 k,D.int .i64 n,D.str s,D.slice a []])])) (Tr.ret (D.bool false) [(0,Ob.cells [D.bool nb]),(1,Ob.cells [D.int .u8 k,D.int .i64 n,D.str s,D.slice a []])]))) (Tr.ret (D.bool false) [(0,Ob.cells [D.bool nb]),(1,Ob.cells [D.int .u8 k,D.int .i64 n,D.str s,D.slice a []])])
theorem CS3_eq (k n:Int) (s:List UInt8) (a:List (List D)) (nb y b:Bool):goT Tryz.prog (dCtr [(8,D.bool y),(12,D.bool b)]) 2 (finF false 2 rs70) 2000 [Fr.sc sc70] { tm:=envOf 0 ([]++[]++[D.ptr 0 0,D.ptr 1 0]),ob:=[(0,Ob.cells [D.bool nb]),(1,Ob.cells (tC k n s a))] }=CS3 k n s a nb y b:=by kernel_rfl
noncomputable def CS4 (k n:Int) (s:List UInt8) (a:List (List D)) (nb y b:Bool):Tr:=brT nb (Tr.owe (FnOK Tryz.prog 69 [D.str s] (D.bool y)) (brT y (Tr.owe (FnOK Tryz.prog 67 [D.agg [D.int .u8 k,D.int .i64 n,D.str s,D.slice a []],D.int .i64 (1:Int),D.int .i64 (8:Int)] (D.bool b)) (Tr.ret (D.bool b) [(0,Ob.cells [D.bool nb]),(1,Ob.cells [D.int .u8 k,D.int .i64 n,D.str s,D.slice a []])])) (Tr.ret (D.bool false) [(0,Ob.cells [D.bool nb]),(1,Ob.cells [D.int .u8 k,D.int .i64 n,D.str s,D.slice a []])]))) (Tr.ret (D.bool false) [(0,Ob.cells [D.bool nb]),(1,Ob.cells [D.int .u8 k,D.int .i64 n,D.str s,D.slice a []])])
theorem CS4_eq (k n:Int) (s:List UInt8) (a:List (List D)) (nb y b:Bool):goT Tryz.prog (dCtr [(8,D.bool y),(12,D.bool b)]) 2 (finF false 2 rs72) 2000 [Fr.sc sc72] { tm:=envOf 0 ([]++[]++[D.ptr 0 0,D.ptr 1 0]),ob:=[(0,Ob.cells [D.bool nb]),(1,Ob.cells (tC k n s a))] }=CS4 k n s a nb y b:=by kernel_rfl
noncomputable def CS5 (k n:Int) (s:List UInt8) (a:List (List D)) (nb ob b2 b1:Bool):Tr:=brT nb (brT ob (Tr.owe (FnOK Tryz.prog 67 [D.agg [D.int .u8 k,D.int .i64 n,D.str s,D.slice a []],D.int .i64 (2:Int),D.int .i64 (2:Int)] (D.bool b2)) (brT b2 (Tr.ret (D.bool true) [(0,Ob.cells [D.bool nb]),(1,Ob.cells [D.bool ob]),(2,Ob.cells [D.int .u8 k,D.int .i64 n,D.str s,D.slice a []])]) (brT (decide (s=[(45:UInt8)])) (Tr.owe (FnOK Tryz.prog 67 [D.agg [D.int .u8 k,D.int .i64 n,D.str s,D.slice a []],D.int .i64 (1:Int),D.int .i64 (1:Int)] (D.bool b1)) (Tr.ret (D.bool b1) [(0,Ob.cells [D.bool nb]),(1,Ob.cells [D.bool ob]),(2,Ob.cells [D.int .u8 k,D.int .i64 n,D.str s,D.slice a []])])) (Tr.ret (D.bool false) [(0,Ob.cells [D.bool nb]),(1,Ob.cells [D.bool ob]),(2,Ob.cells [D.int .u8 k,D.int .i64 n,D.str s,D.slice a []])])))) (Tr.ret (D.bool false) [(0,Ob.cells [D.bool nb]),(1,Ob.cells [D.bool ob]),(2,Ob.cells [D.int .u8 k,D.int .i64 n,D.str s,D.slice a []])])) (Tr.ret (D.bool false) [(0,Ob.cells [D.bool nb]),(1,Ob.cells [D.bool ob]),(2,Ob.cells [D.int .u8 k,D.int .i64 n,D.str s,D.slice a []])])
theorem CS5_eq (k n:Int) (s:List UInt8) (a:List (List D)) (nb ob b2 b1:Bool):goT Tryz.prog (dCtr [(10,D.bool b2),(18,D.bool b1)]) 3 (finF false 3 rs73) 2000 [Fr.sc sc73] { tm:=envOf 0 ([]++[]++[D.ptr 0 0,D.ptr 1 0,D.ptr 2 0]),ob:=[(0,Ob.cells [D.bool nb]),(1,Ob.cells [D.bool ob]),(2,Ob.cells (tC k n s a))] }=CS5 k n s a nb ob b2 b1:=by kernel_rfl
noncomputable def CS6 (k n:Int) (s:List UInt8) (a:List (List D)) (b:Bool):Tr:=brT (decide (n=(0:Int))) (brT (decide (s=[])) (Tr.owe (FnOK Tryz.prog 67 [D.agg [D.int .u8 k,D.int .i64 n,D.str s,D.slice a []],D.int .i64 (2:Int),D.int .i64 (2:Int)] (D.bool b)) (Tr.ret (D.bool b) [(0,Ob.cells [D.int .u8 k,D.int .i64 n,D.str s,D.slice a []])])) (Tr.ret (D.bool false) [(0,Ob.cells [D.int .u8 k,D.int .i64 n,D.str s,D.slice a []])])) (Tr.ret (D.bool false) [(0,Ob.cells [D.int .u8 k,D.int .i64 n,D.str s,D.slice a []])])
theorem CS6_eq (k n:Int) (s:List UInt8) (a:List (List D)) (b:Bool):goT Tryz.prog (dCtr [(14,D.bool b)]) 1 (finF false 1 rs74) 2000 [Fr.sc sc74] { tm:=envOf 0 ([]++[]++[D.ptr 0 0]),ob:=[(0,Ob.cells (tC k n s a))] }=CS6 k n s a b:=by kernel_rfl
noncomputable def PSh (k n:Int) (s:List UInt8) (a:List (List D)) (y b:Bool):Tr:=brT (decide (n=(0:Int))) (Tr.owe (FnOK Tryz.prog 65 [D.str [(43:UInt8),(45:UInt8),(42:UInt8),(47:UInt8),(92:UInt8)],D.str s] (D.bool y)) (brT y (brT (decide (k=(1:Int))) (Tr.owe (CallL Tryz.prog (D.func (Fn.func 66) [] [D.ptr 0 0]) [] [(0,Ob.cells [D.int .u8 k,D.int .i64 n,D.str s,D.slice a []])] fun r0 o=>r0=D.bool b/\o=[(0,Ob.cells [D.int .u8 k,D.int .i64 n,D.str s,D.slice a []])]) (Tr.ret (D.bool b) [])) (brT (decide (k=(2:Int))) (Tr.owe (CallL Tryz.prog (D.func (Fn.func 68) [] [D.ptr 0 0,D.ptr 1 0]) [] [(0,Ob.cells [D.bool !decide (s=[])]),(1,Ob.cells [D.int .u8 k,D.int .i64 n,D.str s,D.slice a []])] fun r0 o=>r0=D.bool b/\o=[(0,Ob.cells [D.bool !decide (s=[])]),(1,Ob.cells [D.int .u8 k,D.int .i64 n,D.str s,D.slice a []])]) (Tr.ret (D.bool b) [])) (brT (decide (k=(3:Int))) (Tr.owe (CallL Tryz.prog (D.func (Fn.func 70) [] [D.ptr 0 0,D.ptr 1 0]) [] [(0,Ob.cells [D.bool !decide (s=[])]),(1,Ob.cells [D.int .u8 k,D.int .i64 n,D.str s,D.slice a []])] fun r0 o=>r0=D.bool b/\o=[(0,Ob.cells [D.bool !decide (s=[])]),(1,Ob.cells [D.int .u8 k,D.int .i64 n,D.str s,D.slice a []])]) (Tr.ret (D.bool b) [])) (brT (decide (k=(4:Int))) (Tr.owe (CallL Tryz.prog (D.func (Fn.func 72) [] [D.ptr 0 0,D.ptr 1 0]) [] [(0,Ob.cells [D.bool !decide (s=[])]),(1,Ob.cells [D.int .u8 k,D.int .i64 n,D.str s,D.slice a []])] fun r0 o=>r0=D.bool b/\o=[(0,Ob.cells [D.bool !decide (s=[])]),(1,Ob.cells [D.int .u8 k,D.int .i64 n,D.str s,D.slice a []])]) (Tr.ret (D.bool b) [])) (brT (decide (k=(5:Int))) (Tr.owe (CallL Tryz.prog (D.func (Fn.func 73) [] [D.ptr 0 0,D.ptr 1 0,D.ptr 2 0]) [] [(0,Ob.cells [D.bool !decide (s=[])]),(1,Ob.cells [D.bool (decide ((↑(List.length s):Int)=(1:Int)))]),(2,Ob.cells [D.int .u8 k,D.int .i64 n,D.str s,D.slice a []])] fun r0 o=>r0=D.bool b/\o=[(0,Ob.cells [D.bool !decide (s=[])]),(1,Ob.cells [D.bool (decide ((↑(List.length s):Int)=(1:Int)))]),(2,Ob.cells [D.int .u8 k,D.int .i64 n,D.str s,D.slice a []])]) (Tr.ret (D.bool b) [])) (brT (decide (k=(6:Int))) (Tr.owe (CallL Tryz.prog (D.func (Fn.func 74) [] [D.ptr 0 0]) [] [(0,Ob.cells [D.int .u8 k,D.int .i64 n,D.str s,D.slice a []])] fun r0 o=>r0=D.bool b/\o=[(0,Ob.cells [D.int .u8 k,D.int .i64 n,D.str s,D.slice a []])]) (Tr.ret (D.bool b) [])) (Tr.ret (D.bool false) []))))))) (brT (decide (k=(1:Int))) (Tr.owe (CallL Tryz.prog (D.func (Fn.func 66) [] [D.ptr 0 0]) [] [(0,Ob.cells [D.int .u8 k,D.int .i64 n,D.str s,D.slice a []])] fun r0 o=>r0=D.bool b/\o=[(0,Ob.cells [D.int .u8 k,D.int .i64 n,D.str s,D.slice a []])]) (Tr.ret (D.bool b) [])) (brT (decide (k=(2:Int))) (Tr.owe (CallL Tryz.prog (D.func (Fn.func 68) [] [D.ptr 0 0,D.ptr 1 0]) [] [(0,Ob.cells [D.bool !decide (s=[])]),(1,Ob.cells [D.int .u8 k,D.int .i64 n,D.str s,D.slice a []])] fun r0 o=>r0=D.bool b/\o=[(0,Ob.cells [D.bool !decide (s=[])]),(1,Ob.cells [D.int .u8 k,D.int .i64 n,D.str s,D.slice a []])]) (Tr.ret (D.bool b) [])) (brT (decide (k=(3:Int))) (Tr.owe (CallL Tryz.prog (D.func (Fn.func 70) [] [D.ptr 0 0,D.ptr 1 0]) [] [(0,Ob.cells [D.bool !decide (s=[])]),(1,Ob.cells [D.int .u8 k,D.int .i64 n,D.str s,D.slice a []])] fun r0 o=>r0=D.bool b/\o=[(0,Ob.cells [D.bool !decide (s=[])]),(1,Ob.cells [D.int .u8 k,D.int .i64 n,D.str s,D.slice a []])]) (Tr.ret (D.bool b) [])) (brT (decide (k=(4:Int))) (Tr.owe (CallL Tryz.prog (D.func (Fn.func 72) [] [D.ptr 0 0,D.ptr 1 0]) [] [(0,Ob.cells [D.bool !decide (s=[])]),(1,Ob.cells [D.int .u8 k,D.int .i64 n,D.str s,D.slice a []])] fun r0 o=>r0=D.bool b/\o=[(0,Ob.cells [D.bool !decide (s=[])]),(1,Ob.cells [D.int .u8 k,D.int .i64 n,D.str s,D.slice a []])]) (Tr.ret (D.bool b) [])) (brT (decide (k=(5:Int))) (Tr.owe (CallL Tryz.prog (D.func (Fn.func 73) [] [D.ptr 0 0,D.ptr 1 0,D.ptr 2 0]) [] [(0,Ob.cells [D.bool !decide (s=[])]),(1,Ob.cells [D.bool false]),(2,Ob.cells [D.int .u8 k,D.int .i64 n,D.str s,D.slice a []])] fun r0 o=>r0=D.bool b/\o=[(0,Ob.cells [D.bool !decide (s=[])]),(1,Ob.cells [D.bool false]),(2,Ob.cells [D.int .u8 k,D.int .i64 n,D.str s,D.slice a []])]) (Tr.ret (D.bool b) [])) (brT (decide (k=(6:Int))) (Tr.owe (CallL Tryz.prog (D.func (Fn.func 74) [] [D.ptr 0 0]) [] [(0,Ob.cells [D.int .u8 k,D.int .i64 n,D.str s,D.slice a []])] fun r0 o=>r0=D.bool b/\o=[(0,Ob.cells [D.int .u8 k,D.int .i64 n,D.str s,D.slice a []])]) (Tr.ret (D.bool b) [])) (Tr.ret (D.bool false) []))))))))) (Tr.owe (FnOK Tryz.prog 65 [D.str [(43:UInt8),(45:UInt8),(42:UInt8),(47:UInt8),(92:UInt8)],D.str s] (D.bool y)) (brT y (brT (decide (k=(1:Int))) (Tr.owe (CallL Tryz.prog (D.func (Fn.func 66) [] [D.ptr 0 0]) [] [(0,Ob.cells [D.int .u8 k,D.int .i64 n,D.str s,D.slice a []])] fun r0 o=>r0=D.bool b/\o=[(0,Ob.cells [D.int .u8 k,D.int .i64 n,D.str s,D.slice a []])]) (Tr.ret (D.bool b) [])) (brT (decide (k=(2:Int))) (Tr.owe (CallL Tryz.prog (D.func (Fn.func 68) [] [D.ptr 0 0,D.ptr 1 0]) [] [(0,Ob.cells [D.bool false]),(1,Ob.cells [D.int .u8 k,D.int .i64 n,D.str s,D.slice a []])] fun r0 o=>r0=D.bool b/\o=[(0,Ob.cells [D.bool false]),(1,Ob.cells [D.int .u8 k,D.int .i64 n,D.str s,D.slice a []])]) (Tr.ret (D.bool b) [])) (brT (decide (k=(3:Int))) (Tr.owe (CallL Tryz.prog (D.func (Fn.func 70) [] [D.ptr 0 0,D.ptr 1 0]) [] [(0,Ob.cells [D.bool false]),(1,Ob.cells [D.int .u8 k,D.int .i64 n,D.str s,D.slice a []])] fun r0 o=>r0=D.bool b/\o=[(0,Ob.cells [D.bool false]),(1,Ob.cells [D.int .u8 k,D.int .i64 n,D.str s,D.slice a []])]) (Tr.ret (D.bool b) [])) (brT (decide (k=(4:Int))) (Tr.owe (CallL Tryz.prog (D.func (Fn.func 72) [] [D.ptr 0 0,D.ptr 1 0]) [] [(0,Ob.cells [D.bool false]),(1,Ob.cells [D.int .u8 k,D.int .i64 n,D.str s,D.slice a []])] fun r0 o=>r0=D.bool b/\o=[(0,Ob.cells [D.bool false]),(1,Ob.cells [D.int .u8 k,D.int .i64 n,D.str s,D.slice a []])]) (Tr.ret (D.bool b) [])) (brT (decide (k=(5:Int))) (Tr.owe (CallL Tryz.prog (D.func (Fn.func 73) [] [D.ptr 0 0,D.ptr 1 0,D.ptr 2 0]) [] [(0,Ob.cells [D.bool false]),(1,Ob.cells [D.bool (decide ((↑(List.length s):Int)=(1:Int)))]),(2,Ob.cells [D.int .u8 k,D.int .i64 n,D.str s,D.slice a []])] fun r0 o=>r0=D.bool b/\o=[(0,Ob.cells [D.bool false]),(1,Ob.cells [D.bool (decide ((↑(List.length s):Int)=(1:Int)))]),(2,Ob.cells [D.int .u8 k,D.int .i64 n,D.str s,D.slice a []])]) (Tr.ret (D.bool b) [])) (brT (decide (k=(6:Int))) (Tr.owe (CallL Tryz.prog (D.func (Fn.func 74) [] [D.ptr 0 0]) [] [(0,Ob.cells [D.int .u8 k,D.int .i64 n,D.str s,D.slice a []])] fun r0 o=>r0=D.bool b/\o=[(0,Ob.cells [D.int .u8 k,D.int .i64 n,D.str s,D.slice a []])]) (Tr.ret (D.bool b) [])) (Tr.ret (D.bool false) []))))))) (brT (decide (k=(1:Int))) (Tr.owe (CallL Tryz.prog (D.func (Fn.func 66) [] [D.ptr 0 0]) [] [(0,Ob.cells [D.int .u8 k,D.int .i64 n,D.str s,D.slice a []])] fun r0 o=>r0=D.bool b/\o=[(0,Ob.cells [D.int .u8 k,D.int .i64 n,D.str s,D.slice a []])]) (Tr.ret (D.bool b) [])) (brT (decide (k=(2:Int))) (Tr.owe (CallL Tryz.prog (D.func (Fn.func 68) [] [D.ptr 0 0,D.ptr 1 0]) [] [(0,Ob.cells [D.bool false]),(1,Ob.cells [D.int .u8 k,D.int .i64 n,D.str s,D.slice a []])] fun r0 o=>r0=D.bool b/\o=[(0,Ob.cells [D.bool false]),(1,Ob.cells [D.int .u8 k,D.int .i64 n,D.str s,D.slice a []])]) (Tr.ret (D.bool b) [])) (brT (decide (k=(3:Int))) (Tr.owe (CallL Tryz.prog (D.func (Fn.func 70) [] [D.ptr 0 0,D.ptr 1 0]) [] [(0,Ob.cells [D.bool false]),(1,Ob.cells [D.int .u8 k,D.int .i64 n,D.str s,D.slice a []])] fun r0 o=>r0=D.bool b/\o=[(0,Ob.cells [D.bool false]),(1,Ob.cells [D.int .u8 k,D.int .i64 n,D.str s,D.slice a []])]) (Tr.ret (D.bool b) [])) (brT (decide (k=(4:Int))) (Tr.owe (CallL Tryz.prog (D.func (Fn.func 72) [] [D.ptr 0 0,D.ptr 1 0]) [] [(0,Ob.cells [D.bool false]),(1,Ob.cells [D.int .u8 k,D.int .i64 n,D.str s,D.slice a []])] fun r0 o=>r0=D.bool b/\o=[(0,Ob.cells [D.bool false]),(1,Ob.cells [D.int .u8 k,D.int .i64 n,D.str s,D.slice a []])]) (Tr.ret (D.bool b) [])) (brT (decide (k=(5:Int))) (Tr.owe (CallL Tryz.prog (D.func (Fn.func 73) [] [D.ptr 0 0,D.ptr 1 0,D.ptr 2 0]) [] [(0,Ob.cells [D.bool false]),(1,Ob.cells [D.bool false]),(2,Ob.cells [D.int .u8 k,D.int .i64 n,D.str s,D.slice a []])] fun r0 o=>r0=D.bool b/\o=[(0,Ob.cells [D.bool false]),(1,Ob.cells [D.bool false]),(2,Ob.cells [D.int .u8 k,D.int .i64 n,D.str s,D.slice a []])]) (Tr.ret (D.bool b) [])) (brT (decide (k=(6:Int))) (Tr.owe (CallL Tryz.prog (D.func (Fn.func 74) [] [D.ptr 0 0]) [] [(0,Ob.cells [D.int .u8 k,D.int .i64 n,D.str s,D.slice a []])] fun r0 o=>r0=D.bool b/\o=[(0,Ob.cells [D.int .u8 k,D.int .i64 n,D.str s,D.slice a []])]) (Tr.ret (D.bool b) [])) (Tr.ret (D.bool false) [])))))))))
theorem PSh_eq (k n:Int) (s:List UInt8) (a:List (List D)) (y b:Bool):goT Tryz.prog (dCtr [(20,D.bool y)] [] (asmK (D.bool b))) 0 (finF true 0 rs45) 2000 [Fr.sc sc45] { tm:=envOf 0 [D.agg (tC k n s a)],ob:=[] }=PSh k n s a y b:=by kernel_rfl
theorem arg_ok (k n:Int) (s:List UInt8) (a:List (List D)) (lo hi:Int):FnOK Tryz.prog 67 [.agg (tC k n s a),.int .i64 lo,.int .i64 hi] (.bool (decide (lo<=(a.length:Int)) && decide ((a.length:Int)<=hi))):=by
 refine FnOK.tree hdraw fp67 (dCtr_ok qnone_ok) (PArg_eq k n s a lo hi) ?_
 unfold PArg
 cases h:decide (lo<=(a.length:Int)) <;> simp[brT,ok_ret]
theorem cs1_ok (k n:Int) (s:List UInt8) (a:List (List D)):CallL Tryz.prog (.func (.func 66) [] [.ptr 0 0]) [] [(0,.cells (tC k n s a))] fun r o=>r= .bool (decide (-2147483647<=n) && decide (n<=2147483647) && decide (s=[]) && (decide ((0:Int)<=(a.length:Int)) && decide ((a.length:Int)<=0)))/\o=[(0,.cells (tC k n s a))]:=by
 have ha:=arg_ok k n s a 0 0
 generalize (decide ((0:Int)<=(a.length:Int)) && decide ((a.length:Int)<=0))=b at ha ⊢
 refine CallL.tree hdraw fp66 (dCtr_ok qnone_ok) (CS1_eq k n s a b) ?_
 unfold CS1
 simp only[ok_br,ok_owe,ok_ret]
 exact⟨fun h1=>⟨fun h2=>⟨fun h3=>⟨ha,by rw[h1,h2,h3]; rfl,by first | rfl | trivial⟩,fun h3=>⟨by rw[h1,h2,h3]; rfl,by first | rfl | trivial⟩⟩,fun h2=>⟨by rw[h1,h2]; rfl,by first | rfl | trivial⟩⟩,fun h1=>⟨by rw[h1]; rfl,by first | rfl | trivial⟩⟩
theorem cs2_ok (k n:Int) (s:List UInt8) (a:List (List D)) (nb:Bool) (hs:s.length<=4611686018427387904):CallL Tryz.prog (.func (.func 68) [] [.ptr 0 0,.ptr 1 0]) [] [(0,.cells [.bool nb]),(1,.cells (tC k n s a))] fun r o=>r= .bool (nb && Lx.symbolB s && (decide ((0:Int)<=(a.length:Int)) && decide ((a.length:Int)<=0)))/\o=[(0,.cells [.bool nb]),(1,.cells (tC k n s a))]:=by
 have ha:=arg_ok k n s a 0 0
 have hy:=symbol_ok s hs
 generalize (decide ((0:Int)<=(a.length:Int)) && decide ((a.length:Int)<=0))=b at ha ⊢
 generalize Lx.symbolB s=y at hy ⊢
 refine CallL.tree hdraw fp68 (dCtr_ok qnone_ok) (CS2_eq k n s a nb y b) ?_
 unfold CS2
 cases nb
 ·rw[ok_false,ok_ret]; exact⟨rfl,rfl⟩
 ·rw[ok_true,ok_owe]
  refine⟨hy, ?_⟩
  cases y
  ·rw[ok_false,ok_ret]; exact⟨rfl,rfl⟩
  ·rw[ok_true,ok_owe,ok_ret]; exact⟨ha,rfl,rfl⟩
theorem cs3_ok (k n:Int) (s:List UInt8) (a:List (List D)) (nb:Bool) (hs:s.length<=4611686018427387904):CallL Tryz.prog (.func (.func 70) [] [.ptr 0 0,.ptr 1 0]) [] [(0,.cells [.bool nb]),(1,.cells (tC k n s a))] fun r o=>r= .bool (nb && Lx.variableB s && (decide ((0:Int)<=(a.length:Int)) && decide ((a.length:Int)<=0)))/\o=[(0,.cells [.bool nb]),(1,.cells (tC k n s a))]:=by
 have ha:=arg_ok k n s a 0 0
 have hy:=variable_ok s hs
 generalize (decide ((0:Int)<=(a.length:Int)) && decide ((a.length:Int)<=0))=b at ha ⊢
 generalize Lx.variableB s=y at hy ⊢
 refine CallL.tree hdraw fp70 (dCtr_ok qnone_ok) (CS3_eq k n s a nb y b) ?_
 unfold CS3
 cases nb
 ·rw[ok_false,ok_ret]; exact⟨rfl,rfl⟩
 ·rw[ok_true,ok_owe]
  refine⟨hy, ?_⟩
  cases y
  ·rw[ok_false,ok_ret]; exact⟨rfl,rfl⟩
  ·rw[ok_true,ok_owe,ok_ret]; exact⟨ha,rfl,rfl⟩
theorem cs4_ok (k n:Int) (s:List UInt8) (a:List (List D)) (nb:Bool) (hs:s.length<=4611686018427387904):CallL Tryz.prog (.func (.func 72) [] [.ptr 0 0,.ptr 1 0]) [] [(0,.cells [.bool nb]),(1,.cells (tC k n s a))] fun r o=>r= .bool (nb && Lx.symbolB s && (decide ((1:Int)<=(a.length:Int)) && decide ((a.length:Int)<=8)))/\o=[(0,.cells [.bool nb]),(1,.cells (tC k n s a))]:=by
 have ha:=arg_ok k n s a 1 8
 have hy:=symbol_ok s hs
 generalize (decide ((1:Int)<=(a.length:Int)) && decide ((a.length:Int)<=8))=b at ha ⊢
 generalize Lx.symbolB s=y at hy ⊢
 refine CallL.tree hdraw fp72 (dCtr_ok qnone_ok) (CS4_eq k n s a nb y b) ?_
 unfold CS4
 cases nb
 ·rw[ok_false,ok_ret]; exact⟨rfl,rfl⟩
 ·rw[ok_true,ok_owe]
  refine⟨hy, ?_⟩
  cases y
  ·rw[ok_false,ok_ret]; exact⟨rfl,rfl⟩
  ·rw[ok_true,ok_owe,ok_ret]; exact⟨ha,rfl,rfl⟩
theorem cs5_ok (k n:Int) (s:List UInt8) (a:List (List D)) (nb ob:Bool):CallL Tryz.prog (.func (.func 73) [] [.ptr 0 0,.ptr 1 0,.ptr 2 0]) [] [(0,.cells [.bool nb]),(1,.cells [.bool ob]),(2,.cells (tC k n s a))] fun r o=>r= .bool (nb && ob && ((decide ((2:Int)<=(a.length:Int)) && decide ((a.length:Int)<=2)) || decide (s=[45]) && (decide ((1:Int)<=(a.length:Int)) && decide ((a.length:Int)<=1))))/\o=[(0,.cells [.bool nb]),(1,.cells [.bool ob]),(2,.cells (tC k n s a))]:=by
 have ha:=arg_ok k n s a 2 2
 have hb:=arg_ok k n s a 1 1
 generalize (decide ((2:Int)<=(a.length:Int)) && decide ((a.length:Int)<=2))=b2 at ha ⊢
 generalize (decide ((1:Int)<=(a.length:Int)) && decide ((a.length:Int)<=1))=b1 at hb ⊢
 refine CallL.tree hdraw fp73 (dCtr_ok qnone_ok) (CS5_eq k n s a nb ob b2 b1) ?_
 unfold CS5
 cases nb
 ·rw[ok_false,ok_ret]; exact⟨rfl,rfl⟩
 ·rw[ok_true]
  cases ob
  ·rw[ok_false,ok_ret]; exact⟨rfl,rfl⟩
  ·rw[ok_true,ok_owe]
   refine⟨ha, ?_⟩
   cases b2
   ·simp only[ok_false,ok_br,ok_owe,ok_ret]
    exact⟨fun h=>⟨hb,by rw[h]; rfl,by first | rfl | trivial⟩,fun h=>⟨by rw[h]; rfl,by first | rfl | trivial⟩⟩
   ·rw[ok_true,ok_ret]; exact⟨rfl,rfl⟩
theorem cs6_ok (k n:Int) (s:List UInt8) (a:List (List D)):CallL Tryz.prog (.func (.func 74) [] [.ptr 0 0]) [] [(0,.cells (tC k n s a))] fun r o=>r= .bool (decide (n=0) && decide (s=[]) && (decide ((2:Int)<=(a.length:Int)) && decide ((a.length:Int)<=2)))/\o=[(0,.cells (tC k n s a))]:=by
 have ha:=arg_ok k n s a 2 2
 generalize (decide ((2:Int)<=(a.length:Int)) && decide ((a.length:Int)<=2))=b at ha ⊢
 refine CallL.tree hdraw fp74 (dCtr_ok qnone_ok) (CS6_eq k n s a b) ?_
 unfold CS6
 simp only[ok_br,ok_owe,ok_ret]
 exact⟨fun h1=>⟨fun h2=>⟨ha,by rw[h1,h2]; rfl,by first | rfl | trivial⟩,fun h2=>⟨by rw[h1,h2]; rfl,by first | rfl | trivial⟩⟩,fun h1=>⟨by rw[h1]; rfl,by first | rfl | trivial⟩⟩
theorem cont_all:((List.range 256).all fun c=>Lib.contains [43,45,42,47,92] [UInt8.ofNat c] == (decide ([UInt8.ofNat c]=[43]) || decide ([UInt8.ofNat c]=[45]) || decide ([UInt8.ofNat c]=[42]) || decide ([UInt8.ofNat c]=[47]) || decide ([UInt8.ofNat c]=[92])))=true:=by kernel_rfl
theorem oper_eq (s:List UInt8):(Lib.contains [43,45,42,47,92] s && decide ((s.length:Int)=1))=(decide (s=[43]) || decide (s=[45]) || decide (s=[42]) || decide (s=[47]) || decide (s=[92])):=by
 by_cases h:s.length=1
 ·match s,h with
  | [c],_ =>
   have:=List.all_eq_true.1 cont_all c.toNat (List.mem_range.2 c.toNat_lt)
   rw[beq_iff_eq] at this
   simp only[UInt8.ofNat_toNat] at this
   rw[this]
   simp
 ·have h1: ¬ ((s.length:Int)=1):=by omega
  have h2: ∀ c:UInt8,s≠[c]:=fun c e=>h (by rw[e]; rfl)
  simp[h1,h2]
theorem shape_ok (k n:Int) (s:List UInt8) (a:List (List D)) (hs:s.length<=4611686018427387904):FnOK Tryz.prog 45 [.agg (tC k n s a)] (.bool (shapeB k n s a.length)):=by
 have hc:FnOK Tryz.prog 65 [.str [43,45,42,47,92],.str s] (.bool (Lib.contains [43,45,42,47,92] s)):=by
  have:=libT_ok 65 [.str [43,45,42,47,92],.str s] _ rfl
  exact this (by decide)
 have hop:=oper_eq s
 have l0:(decide ((0:Int)<=(a.length:Int)) && decide ((a.length:Int)<=0))=decide (a.length=0):=by rw[Bool.eq_iff_iff]; simp
 have l2:(decide ((2:Int)<=(a.length:Int)) && decide ((a.length:Int)<=2))=decide (a.length=2):=by rw[Bool.eq_iff_iff]; simp; omega
 have l1:(decide ((1:Int)<=(a.length:Int)) && decide ((a.length:Int)<=1))=decide (a.length=1):=by rw[Bool.eq_iff_iff]; simp; omega
 have l8:(decide ((1:Int)<=(a.length:Int)) && decide ((a.length:Int)<=8))=(decide (1<=a.length) && decide (a.length<=8)):=by rw[Bool.eq_iff_iff]; simp; omega
 have n2: ∀ y:Bool,(y=true->s≠[])->(decide (n=0) && !decide (s=[]) && y)=(decide (n=0) && y):=fun y h=>by
  cases y
  ·simp
  ·simp[h rfl]
 have sy:Lx.symbolB s=true->s≠[]:=fun h e=>by rw[e] at h; exact absurd h (by decide)
 have va:Lx.variableB s=true->s≠[]:=fun h e=>by rw[e] at h; exact absurd h (by decide)
 have opn:(Lib.contains [43,45,42,47,92] s && decide ((s.length:Int)=1))=true->s≠[]:=fun h e=>by rw[e] at h; simp at h
 have c1:=cs1_ok k n s a
 have c2:=fun nb=>cs2_ok k n s a nb hs
 have c3:=fun nb=>cs3_ok k n s a nb hs
 have c4:=fun nb=>cs4_ok k n s a nb hs
 have c5:=fun nb ob=>cs5_ok k n s a nb ob
 have c6:=cs6_ok k n s a
 rw[l0] at c1
 simp only[l0] at c2 c3
 simp only[l8] at c4
 simp only[l2,l1] at c5
 rw[l2] at c6
 generalize hB:shapeB k n s a.length=B
 have F1:k=1->CallL Tryz.prog (.func (.func 66) [] [.ptr 0 0]) [] [(0,.cells (tC k n s a))] fun r o=>r= .bool B/\o=[(0,.cells (tC k n s a))]:=fun h=>by
  have e:(decide (-2147483647<=n) && decide (n<=2147483647) && decide (s=[]) && decide (a.length=0))=B:=by rw[<- hB]; unfold shapeB; rw[if_pos h]
  rw[<- e]; exact c1
 have F2: ∀ nb,nb=(decide (n=0) && !decide (s=[]))->k=2->CallL Tryz.prog (.func (.func 68) [] [.ptr 0 0,.ptr 1 0]) [] [(0,.cells [.bool nb]),(1,.cells (tC k n s a))] fun r o=>r= .bool B/\o=[(0,.cells [.bool nb]),(1,.cells (tC k n s a))]:=fun nb hn h=>by
  have e:(nb && Lx.symbolB s && decide (a.length=0))=B:=by rw[<- hB,hn,n2 _ sy]; unfold shapeB; rw[h]; rfl
  rw[<- e]; exact c2 nb
 have F3: ∀ nb,nb=(decide (n=0) && !decide (s=[]))->k=3->CallL Tryz.prog (.func (.func 70) [] [.ptr 0 0,.ptr 1 0]) [] [(0,.cells [.bool nb]),(1,.cells (tC k n s a))] fun r o=>r= .bool B/\o=[(0,.cells [.bool nb]),(1,.cells (tC k n s a))]:=fun nb hn h=>by
  have e:(nb && Lx.variableB s && decide (a.length=0))=B:=by rw[<- hB,hn,n2 _ va]; unfold shapeB; rw[h]; rfl
  rw[<- e]; exact c3 nb
 have F4: ∀ nb,nb=(decide (n=0) && !decide (s=[]))->k=4->CallL Tryz.prog (.func (.func 72) [] [.ptr 0 0,.ptr 1 0]) [] [(0,.cells [.bool nb]),(1,.cells (tC k n s a))] fun r o=>r= .bool B/\o=[(0,.cells [.bool nb]),(1,.cells (tC k n s a))]:=fun nb hn h=>by
  have e:(nb && Lx.symbolB s && (decide (1<=a.length) && decide (a.length<=8)))=B:=by rw[<- hB,hn,n2 _ sy]; unfold shapeB; rw[h]; simp only[<- Bool.and_assoc]; rfl
  rw[<- e]; exact c4 nb
 have F5: ∀ nb ob,nb=(decide (n=0) && !decide (s=[]))->ob=(Lib.contains [43,45,42,47,92] s && decide ((s.length:Int)=1))->k=5->CallL Tryz.prog (.func (.func 73) [] [.ptr 0 0,.ptr 1 0,.ptr 2 0]) [] [(0,.cells [.bool nb]),(1,.cells [.bool ob]),(2,.cells (tC k n s a))] fun r o=>r= .bool B/\o=[(0,.cells [.bool nb]),(1,.cells [.bool ob]),(2,.cells (tC k n s a))]:=fun nb ob hn ho h=>by
  have e:(nb && ob && (decide (a.length=2) || decide (s=[45]) && decide (a.length=1)))=B:=by rw[<- hB,hn,ho,n2 _ opn,hop]; unfold shapeB; rw[h]; rfl
  rw[<- e]; exact c5 nb ob
 have F6:k=6->CallL Tryz.prog (.func (.func 74) [] [.ptr 0 0]) [] [(0,.cells (tC k n s a))] fun r o=>r= .bool B/\o=[(0,.cells (tC k n s a))]:=fun h=>by
  have e:(decide (n=0) && decide (s=[]) && decide (a.length=2))=B:=by rw[<- hB]; unfold shapeB; rw[h]; rfl
  rw[<- e]; exact c6
 have F0: ¬ k=1-> ¬ k=2-> ¬ k=3-> ¬ k=4-> ¬ k=5-> ¬ k=6->false=B:=fun h1 h2 h3 h4 h5 h6=>by rw[<- hB]; unfold shapeB; rw[if_neg h1,if_neg h2,if_neg h3,if_neg h4,if_neg h5,if_neg h6]
 generalize Lib.contains [43,45,42,47,92] s=y at hc F5
 refine FnOK.tree hdraw fp45 (dCtr_ok (asmK_ok (.bool B))) (PSh_eq k n s a y B) ?_
 unfold PSh
 cases hn:decide (n=0) <;> rw[hn] at F2 F3 F4 F5 <;> cases y
 all_goals
  simp only[ok_true,ok_false]
  simp only[ok_br,ok_owe,ok_ret,decide_eq_true_eq,decide_eq_false_iff_not]
  exact⟨hc,fun h=>⟨F1 h,trivial⟩,fun h1=>⟨fun h=>⟨F2 _ rfl h,trivial⟩,fun h2=>⟨fun h=>⟨F3 _ rfl h,trivial⟩,fun h3=>⟨fun h=>⟨F4 _ rfl h,trivial⟩,fun h4=>⟨fun h=>⟨F5 _ _ rfl rfl h,trivial⟩,fun h5=>⟨fun h=>⟨F6 h,trivial⟩,fun h6=>by rw[F0 h1 h2 h3 h4 h5 h6]⟩⟩⟩⟩⟩⟩
def DepP (x:Tm):Prop:=FnOK Tryz.prog 42 [.agg x.cells] (.int .i64 x.depth)
theorem cellsG {l:List Tm} {i:Nat} (h:i<l.length):(Tm.cellsL l)[i]? = some l[i].cells:=by rw[cellsL_map]; simp[h]
theorem dep_at (l:List Tm) (hl:l.length<=281474976710656) (H: ∀ x∈l,DepP x) (hd: ∀ x∈l,x.depth<=1000000000): ∀ (m i d:Nat),l.length-i=m->i<=l.length->d<=1000000000 →
  At Tryz.prog 0 (cut sc42 0) (hdDe (Tm.cellsL l) l.length d i) (FinQ true 0 rs42 fun r _=>r= .int .i64 (((Nat.max d (Tm.depthL (l.drop i)))+1:Nat):Int)):=by
 intro m
 induction m with
 | zero =>
  intro i d hm hi hd0
  refine At.tree (dCtr_ok qnone_ok) (PDep2_eq (Tm.cellsL l) l.length d i 0 0 [] [] 0 0) ?_
  unfold PDep2
  rw[List.drop_eq_nil_of_le (by omega)]
  simp only[SS,cellsL_length]
  refine⟨fun h=>by omega,fun _=>⟨by omega, ?_⟩⟩
  simp[Tm.depthL]
 | succ m ih =>
  intro i d hm hi hd0
  have h1:i<l.length:=by omega
  have hx:=cellsG h1
  have hC:=H _ (List.getElem_mem h1)
  have hb:=hd _ (List.getElem_mem h1)
  have hdr:l.drop i=l[i]::l.drop (i+1):=List.drop_eq_getElem_cons h1
  rw[hdr]
  simp only[Tm.depthL]
  unfold DepP at hC
  generalize Tm.depth l[i]=c at hC hb ⊢
  have hI:=ih (i+1) (Nat.max d c) (by omega) (by omega) (Nat.max_le.2 ⟨hd0,hb⟩)
  have e1:Nat.max (Nat.max d c) (Tm.depthL (l.drop (i+1)))=Nat.max d (Nat.max c (Tm.depthL (l.drop (i+1)))):=Nat.max_assoc ..
  rw[e1] at hI
  have e2:(if (c:Int) > (d:Int) then (c:Int) else (d:Int))=((Nat.max d c:Nat):Int):=by
   have:Nat.max d c=max d c:=rfl
   rw[this]
   split <;> omega
  generalize l[i]=x at hx hC
  obtain⟨kx,nx,sx,ax⟩:=x
  refine At.tree (dCtr_ok qnone_ok) (PDep2_eq (Tm.cellsL l) l.length d i kx nx sx (Tm.cellsL ax) c (Nat.max d c:Nat)) ?_
  unfold PDep2
  simp only[SS,cellsL_length,if_true,e2]
  exact⟨fun _=>⟨⟨by omega,hx⟩,hC,by omega,hI⟩,fun h=>by omega⟩
end Go.Proofs.YtfoklncmfoogcaaGreatDoor
