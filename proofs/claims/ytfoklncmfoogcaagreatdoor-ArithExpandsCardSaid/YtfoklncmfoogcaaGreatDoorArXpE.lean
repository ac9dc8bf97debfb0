/- arith.Expand. -/
import Derived.Test.YtfoklncmfoogcaaGreatDoorArXpQ
import Derived.Test.YtfoklncmfoogcaaGreatDoorSx10
set_option linter.unusedSectionVars false
set_option linter.unusedVariables false
set_option linter.unusedSimpArgs false
set_option linter.deprecated false
set_option maxRecDepth 100000
namespace Go.Proofs.YtfoklncmfoogcaaGreatDoor
open Go.Sx
def dfrB:SC->SC
 | .seq (.spec (.dfr _ _)) b=>b
 | .seq _ b=>dfrB b
 | c=>c
def clE:D:= .func (.func 39) [] [.ptr 1 0,.ptr 2 0]
def tDE:FrameMode->Obs->Option (FrameMode × Obs):=fun u ob=>match u with
 | .returning=>some (.returning,ob)
 | .panicking [⟨v,false,false⟩]=>some (.panicking [⟨v,true,false⟩],[(0,.cells [.nils]),(1,.cells [.int .i64 5])])
 | _=>none
noncomputable def ExA (k n:Int) (s:List UInt8) (a:List (List D)) (v g:Bool):Tr:=Tr.owe (FnOK Tryz.prog 20 [D.agg [D.int .u8 k,D.int .i64 n,D.str s,D.slice a []]] (D.bool v)) (brT (!v) (Tr.ret (D.tuple [D.nils,D.int .i64 (2:Int)]) []) (Tr.owe (FnOK Tryz.prog 21 [D.agg [D.int .u8 k,D.int .i64 n,D.str s,D.slice a []]] (D.bool g)) (brT (!g) (Tr.ret (D.tuple [D.nils,D.int .i64 (2:Int)]) []) (Tr.jmp [Fr.sc (SC.seq (SC.spec (Sp.dfr [] (xt 14))) (SC.seq (SC.spec (Sp.frg [1,2,3])) (SC.seq (SC.seq (SC.spec (Sp.pan [so 15 (AOp.load true 4) [xt 1],SOp.cd (some 16) none (xc (D.func (Fn.func 40) [] [])) [xt 15],so 17 (AOp.len false) [xt 16],so 18 AOp.mv [xc (D.int .i64 (0:Int))]])) (SC.block 0 (SC.loop [2,3,16,17,18] (SC.seq (SC.reg [so 19 (AOp.bin BinOp.lss) [xt 18,xt 17]]) (SC.seq (SC.cond (xt 19) SC.skip (SC.exit 0)) (SC.seq (SC.block 1 (SC.seq (SC.reg [so 20 (AOp.iaddr 4) [xt 16,xt 18],so 21 (AOp.load true 4) [xt 20],so 5 (AOp.alloc [D.int .u8 (0:Int),D.int .i64 (0:Int),D.str [],D.nils]) [],SOp.st none (SK.c 4) (xt 5) (xt 21)]) (SC.drw [0,0,2,1,0,31,63,127,63] [so 22 (AOp.load false 1) [xt 2],so 23 (AOp.load true 4) [xt 5],so 24 (AOp.call 41) [xt 23],so 25 (AOp.len false) [xt 22],so 26 (AOp.bslice true 4 1 33 [D.int .u8 (0:Int),D.int .i64 (0:Int),D.str [],D.slice [] []] [(0,4)]) [xc (D.agg [D.int .u8 (0:Int),D.int .i64 (0:Int),D.str [],D.slice [] []])],SOp.app 27 none false 4 33 (xt 22) (xt 26),so 28 (AOp.iaddr 4) [xt 27,xt 25],SOp.st none (SK.c 4) (xt 28) (xt 24),SOp.st none (SK.c 1) (xt 2) (xt 27)]))) (SC.reg [so 29 (AOp.bin BinOp.add) [xt 18,xc (D.int .i64 (1:Int))],so 18 AOp.mv [xt 29]]))))))) (SC.seq (SC.spec (Sp.frg [2,3])) (SC.seq (SC.reg [so 30 (AOp.load false 1) [xt 2],SOp.st none (SK.c 1) (xt 2) (xt 30),SOp.st none (SK.c 1) (xt 3) (xc (D.int .i64 (0:Int)))]) SC.ret)))))] { tm:=[(14,D.func (Fn.func 39) [] [D.ptr 1 0,D.ptr 2 0]),(1,D.ptr 0 0),(2,D.ptr 1 0),(3,D.ptr 2 0)],ob:=[(0,Ob.cells [D.int .u8 k,D.int .i64 n,D.str s,D.slice a []]),(1,Ob.cells [D.nils]),(2,Ob.cells [D.int .i64 (0:Int)])] }))))
theorem ExA_eq (k n:Int) (s:List UInt8) (a:List (List D)) (v g:Bool):goD (dCtr [(7,D.bool v),(11,D.bool g)]) 0 rsP15 scP15 { tm:=envOf 0 [D.agg (tC k n s a)],ob:=[] }=ExA k n s a v g:=by kernel_rfl
def obE (k n:Int) (s:List UInt8) (a:List (List D)):Obs:=[(0,.cells [.int .u8 k,.int .i64 n,.str s,.slice a []]),(1,.cells [.nils]),(2,.cells [.int .i64 0])]
noncomputable def ExB (k n:Int) (s:List UInt8) (a:List (List D)):Tr:=Tr.jmp (frg scP15 2) { tm:=[(1,D.ptr 0 0),(2,D.ptr 1 0),(3,D.ptr 2 0)],ob:=[(0,Ob.cells [D.int .u8 k,D.int .i64 n,D.str s,D.slice a []]),(1,Ob.cells [D.nils]),(2,Ob.cells [D.int .i64 (0:Int)])] }
theorem ExB_eq (k n:Int) (s:List UInt8) (a:List (List D)):goT Tryz.prog (ctr libT) 3 (finDf Tryz.prog tDE 0 3 rsP15 clE) 2000 [Fr.sc (dfrB scP15)] { tm:=[(14,D.func (Fn.func 39) [] [D.ptr 1 0,D.ptr 2 0]),(1,D.ptr 0 0),(2,D.ptr 1 0),(3,D.ptr 2 0)],ob:=obE k n s a }=ExB k n s a:=by kernel_rfl
noncomputable def ExC (k n:Int) (s:List UInt8) (a:List (List D)) (b:Bool) (es:List (List D)):Tr:=brT b (Tr.owe (CallL Tryz.prog (D.func (Fn.func 40) [] []) [D.agg [D.int .u8 k,D.int .i64 n,D.str s,D.slice a []]] [] fun r0 ob0=>r0=D.slice es []/\ob0=[]) (Tr.jmp (cut scP15 0) { tm:=[(2,D.ptr 1 0),(3,D.ptr 2 0),(16,D.slice es []),(17,D.int .i64 (↑(List.length es):Int)),(18,D.int .i64 (0:Int))],ob:=[(0,Ob.cells [D.int .u8 k,D.int .i64 n,D.str s,D.slice a []]),(1,Ob.cells [D.nils]),(2,Ob.cells [D.int .i64 (0:Int)])] })) (Tr.owe (CallL Tryz.prog (D.func (Fn.func 40) [] []) [D.agg [D.int .u8 k,D.int .i64 n,D.str s,D.slice a []]] [] fun r0 ob0=>r0=D.pan manyV/\ob0=[]) (Tr.owe (Sx.CallD Tryz.prog (FrameMode.panicking [{ v:=manyV,recovered:=false }]) (D.func (Fn.func 39) [] [D.ptr 0 0,D.ptr 1 0]) [(0,Ob.cells [D.nils]),(1,Ob.cells [D.int .i64 (0:Int)])] fun u0 ob0=>u0=FrameMode.panicking [{ v:=manyV,recovered:=true }]/\ob0=[(0,Ob.cells [D.nils]),(1,Ob.cells [D.int .i64 (5:Int)])]) (Tr.ret (D.tuple [D.nils,D.int .i64 (5:Int)]) [])))
theorem ExC_eq (k n:Int) (s:List UInt8) (a:List (List D)) (b:Bool) (es:List (List D)):goT Tryz.prog (ctr libT (asmJ b (D.slice es []) id)) 3 (finDf Tryz.prog tDE 0 3 rsP15 clE) 2000 (frg scP15 2) { tm:=[(1,D.ptr 0 0),(2,D.ptr 1 0),(3,D.ptr 2 0)],ob:=obE k n s a }=ExC k n s a b es:=by kernel_rfl
def obE1 (k n:Int) (s:List UInt8) (a row:List (List D)):Obs:=[(0,.cells [.int .u8 k,.int .i64 n,.str s,.slice a []]),(1,.cells [.vec 3]),(2,.cells [.int .i64 0]),(3,.arr false 4 33 row)]
def hdE (es:List (List D)) (m i:Int) (ob:Obs):St:=⟨[(2,.ptr 1 0),(3,.ptr 2 0),(16,.slice es []),(17,.int .i64 m),(18,.int .i64 i)],ob⟩
noncomputable def ExL0 (k n:Int) (s:List UInt8) (a es:List (List D)) (m:Int) (i:Nat) (kx nx:Int) (sx:List UInt8) (ax:List (List D)):Tr:=brT (decide ((↑i:Int)<m)) (Tr.owe ((0:Int)<=(↑i:Int)/\es[Int.toNat (↑i:Int)]? = some [D.int .u8 kx,D.int .i64 nx,D.str sx,D.slice ax []]) (Tr.owe (FnOK Tryz.prog 41 [D.agg [D.int .u8 kx,D.int .i64 nx,D.str sx,D.slice ax []]] (D.agg [D.int .u8 kx,D.int .i64 nx,D.str sx,D.slice ax []])) (Tr.owe (allLen 4 [[D.int .u8 (0:Int),D.int .i64 (0:Int),D.str [],D.slice [] []]]/\1<=1073741824) (Tr.owe ((0:Int)<=(0:Int)/\(0:Int)<(↑(1:Nat):Int)) (Tr.owe (0<1) (Tr.owe ((-9223372036854775808:Int)<=(↑i:Int)+(1:Int)/\(↑i:Int)+(1:Int)<=(9223372036854775807:Int)) (Tr.jmp (cut scP15 0) { tm:=[(2,D.ptr 1 0),(3,D.ptr 2 0),(16,D.slice es []),(17,D.int .i64 m),(18,D.int .i64 ((↑i:Int)+(1:Int)))],ob:=[(0,Ob.cells [D.int .u8 k,D.int .i64 n,D.str s,D.slice a []]),(1,Ob.cells [D.vec 3]),(2,Ob.cells [D.int .i64 (0:Int)]),(3,Ob.arr false 4 33 [[D.int .u8 kx,D.int .i64 nx,D.str sx,D.slice ax []]])] }))))))) (Tr.jmp (frg scP15 3) { tm:=[(2,D.ptr 1 0),(3,D.ptr 2 0)],ob:=[(0,Ob.cells [D.int .u8 k,D.int .i64 n,D.str s,D.slice a []]),(1,Ob.cells [D.nils]),(2,Ob.cells [D.int .i64 (0:Int)])] })
theorem ExL0_eq (k n:Int) (s:List UInt8) (a es:List (List D)) (m:Int) (i:Nat) (kx nx:Int) (sx:List UInt8) (ax:List (List D)):goT Tryz.prog (ctr (asmP (D.agg (tC kx nx sx ax))) qnone (eOne (tC kx nx sx ax))) 3 (finDf Tryz.prog tDE 0 3 rsP15 clE) 2000 (cut scP15 0) (hdE es m (↑i:Int) (obE k n s a))=ExL0 k n s a es m i kx nx sx ax:=by kernel_rfl
noncomputable def ExL1 (k n:Int) (s:List UInt8) (a row es:List (List D)) (m:Int) (i:Nat) (kx nx:Int) (sx:List UInt8) (ax:List (List D)):Tr:=brT (decide ((↑i:Int)<m)) (Tr.owe ((0:Int)<=(↑i:Int)/\es[Int.toNat (↑i:Int)]? = some [D.int .u8 kx,D.int .i64 nx,D.str sx,D.slice ax []]) (Tr.owe (FnOK Tryz.prog 41 [D.agg [D.int .u8 kx,D.int .i64 nx,D.str sx,D.slice ax []]] (D.agg [D.int .u8 kx,D.int .i64 nx,D.str sx,D.slice ax []])) (Tr.owe (allLen 4 [[D.int .u8 (0:Int),D.int .i64 (0:Int),D.str [],D.slice [] []]]/\List.length row+1<=1073741824) (Tr.owe ((0:Int)<=(↑(List.length row):Int)/\(↑(List.length row):Int)<(↑(List.length (row++[[D.int .u8 (0:Int),D.int .i64 (0:Int),D.str [],D.slice [] []]])):Int)) (Tr.owe (Int.toNat (↑(List.length row):Int)<List.length (row++[[D.int .u8 (0:Int),D.int .i64 (0:Int),D.str [],D.slice [] []]])) (Tr.owe ((-9223372036854775808:Int)<=(↑i:Int)+(1:Int)/\(↑i:Int)+(1:Int)<=(9223372036854775807:Int)) (Tr.jmp (cut scP15 0) { tm:=[(2,D.ptr 1 0),(3,D.ptr 2 0),(16,D.slice es []),(17,D.int .i64 m),(18,D.int .i64 ((↑i:Int)+(1:Int)))],ob:=[(0,Ob.cells [D.int .u8 k,D.int .i64 n,D.str s,D.slice a []]),(1,Ob.cells [D.vec 3]),(2,Ob.cells [D.int .i64 (0:Int)]),(3,Ob.arr false 4 33 (List.set (row++[[D.int .u8 (0:Int),D.int .i64 (0:Int),D.str [],D.slice [] []]]) (Int.toNat (↑(List.length row):Int)) [D.int .u8 kx,D.int .i64 nx,D.str sx,D.slice ax []]))] }))))))) (Tr.jmp (frg scP15 3) { tm:=[(2,D.ptr 1 0),(3,D.ptr 2 0)],ob:=[(0,Ob.cells [D.int .u8 k,D.int .i64 n,D.str s,D.slice a []]),(1,Ob.cells [D.vec 3]),(2,Ob.cells [D.int .i64 (0:Int)]),(3,Ob.arr false 4 33 row)] })
theorem ExL1_eq (k n:Int) (s:List UInt8) (a row es:List (List D)) (m:Int) (i:Nat) (kx nx:Int) (sx:List UInt8) (ax:List (List D)):goT Tryz.prog (ctr (asmP (D.agg (tC kx nx sx ax))) qnone (eOne (tC kx nx sx ax))) 3 (finDf Tryz.prog tDE 0 3 rsP15 clE) 2000 (cut scP15 0) (hdE es m (↑i:Int) (obE1 k n s a row))=ExL1 k n s a row es m i kx nx sx ax:=by kernel_rfl
noncomputable def ExE0 (k n:Int) (s:List UInt8) (a:List (List D)):Tr:=Tr.owe (Sx.CallD Tryz.prog FrameMode.returning (D.func (Fn.func 39) [] [D.ptr 0 0,D.ptr 1 0]) [(0,Ob.cells [D.nils]),(1,Ob.cells [D.int .i64 (0:Int)])] fun u0 ob0=>u0=FrameMode.returning/\ob0=[(0,Ob.cells [D.nils]),(1,Ob.cells [D.int .i64 (0:Int)])]) (Tr.ret (D.tuple [D.nils,D.int .i64 (0:Int)]) [])
theorem ExE0_eq (k n:Int) (s:List UInt8) (a:List (List D)):goT Tryz.prog (ctr libT) 3 (finDf Tryz.prog tDE 0 3 rsP15 clE) 2000 (frg scP15 3) { tm:=[(2,D.ptr 1 0),(3,D.ptr 2 0)],ob:=obE k n s a }=ExE0 k n s a:=by kernel_rfl
noncomputable def ExE1 (k n:Int) (s:List UInt8) (a row:List (List D)):Tr:=Tr.owe (Sx.CallD Tryz.prog FrameMode.returning (D.func (Fn.func 39) [] [D.ptr 0 0,D.ptr 1 0]) [(0,Ob.cells [D.vec 2]),(1,Ob.cells [D.int .i64 (0:Int)]),(2,Ob.arr false 4 33 row)] fun u0 ob0=>u0=FrameMode.returning/\ob0=[(0,Ob.cells [D.vec 2]),(1,Ob.cells [D.int .i64 (0:Int)]),(2,Ob.arr false 4 33 row)]) (Tr.ret (D.tuple [D.vec 0,D.int .i64 (0:Int)]) [(0,Ob.arr false 4 33 row)])
theorem ExE1_eq (k n:Int) (s:List UInt8) (a row:List (List D)):goT Tryz.prog (ctr libT) 3 (finDf Tryz.prog tDE 0 3 rsP15 clE) 2000 (frg scP15 3) { tm:=[(2,D.ptr 1 0),(3,D.ptr 2 0)],ob:=obE1 k n s a row }=ExE1 k n s a row:=by kernel_rfl
def rcvO:SC->List SOp
 | .seq (.spec (.rcv _ ops)) _=>ops
 | _=>[]
def rcvB:SC->SC
 | .seq (.spec (.rcv _ _)) b=>b
 | c=>c
def stR (u:FrameMode) (ob:Obs):St:=⟨(5,.raw (recM u).1)::eraseId 5 (envOf 0 [.ptr 0 0,.ptr 1 0]),ob⟩
def obR0:Obs:=[(0,.cells [.nils]),(1,.cells [.int .i64 0])]
def obR1 (row:List (List D)):Obs:=[(0,.cells [.vec 2]),(1,.cells [.int .i64 0]),(2,.arr false 4 33 row)]
noncomputable def CdR0 (z:Nat):Tr:=Tr.ret (D.tuple []) [(0,Ob.cells [D.nils]),(1,Ob.cells [D.int .i64 (0:Int)])]
theorem CdR0_eq (z:Nat):goRc Tryz.prog (ctr libT) 2 2000 (rcvO scP39) (rcvB scP39) (stR FrameMode.returning obR0)=CdR0 z:=by kernel_rfl
noncomputable def CdR1 (row:List (List D)):Tr:=Tr.ret (D.tuple []) [(0,Ob.cells [D.vec 2]),(1,Ob.cells [D.int .i64 (0:Int)]),(2,Ob.arr false 4 33 row)]
theorem CdR1_eq (row:List (List D)):goRc Tryz.prog (ctr libT) 3 2000 (rcvO scP39) (rcvB scP39) (stR FrameMode.returning (obR1 row))=CdR1 row:=by kernel_rfl
noncomputable def CdP (z:Nat):Tr:=Tr.ret (D.tuple []) [(0,Ob.cells [D.nils]),(1,Ob.cells [D.int .i64 (5:Int)])]
theorem CdP_eq (z:Nat):goRc Tryz.prog (ctr libT) 2 2000 (rcvO scP39) (rcvB scP39) (stR (FrameMode.panicking [{ v:=manyV,recovered:=false }]) obR0)=CdP z:=by kernel_rfl
theorem fnD:FnC Tryz.prog 39 10 (.seq (.spec (.rcv 5 (rcvO scP39))) (rcvB scP39)) []:=fpP39.1
theorem cdR0_ok:Sx.CallD Tryz.prog .returning (.func (.func 39) [] [.ptr 0 0,.ptr 1 0]) obR0 fun u o=>u= .returning/\o=obR0 :=
 CallD.tree hdraw fnD (first:=[]) (ctr_ok libT_ok qnone_ok) (CdR0_eq 0) ⟨rfl,rfl⟩
theorem cdR1_ok (row:List (List D)):Sx.CallD Tryz.prog .returning (.func (.func 39) [] [.ptr 0 0,.ptr 1 0]) (obR1 row) fun u o=>u= .returning/\o=obR1 row :=
 CallD.tree hdraw fnD (first:=[]) (ctr_ok libT_ok qnone_ok) (CdR1_eq row) ⟨rfl,rfl⟩
theorem cdP_ok:Sx.CallD Tryz.prog (.panicking [⟨manyV,false,false⟩]) (.func (.func 39) [] [.ptr 0 0,.ptr 1 0]) obR0 fun u o=>u= .panicking [⟨manyV,true,false⟩]/\o=[(0,.cells [.nils]),(1,.cells [.int .i64 5])] :=
 CallD.tree hdraw fnD (first:=[]) (ctr_ok libT_ok qnone_ok) (CdP_eq 0) ⟨rfl,rfl⟩
abbrev QE (R:D->Obs->Prop):Exit->St->Prop:=DefQ Tryz.prog 0 3 rsP15 clE (RE false R)
abbrev RV1 (l:List Tm):D->Obs->Prop:=fun r o=>r= .tuple [.vec 0,.int .i64 0]/\o=[(0,.arr false 4 33 (Tm.cellsL l))]
theorem exL_at (k:Nat) (n:Int) (s:List UInt8) (a:List (List D)) (l:List Tm) (hl:l.length<=1000) (H: ∀ y∈l,CopP y): ∀ (m i:Nat),l.length-i=m->i<=l.length →
  At Tryz.prog 3 (cut scP15 0) (hdE (Tm.cellsL l) l.length i (obE1 k n s a (Tm.cellsL (l.take i)))) (QE (RV1 l)):=by
 intro m
 induction m with
 | zero =>
  intro i hm hi
  refine At.treeD (ctr_ok (asmP_ok _) qnone_ok) (ExL1_eq k n s a (Tm.cellsL (l.take i)) (Tm.cellsL l) l.length i 0 0 [] []) ?_
  unfold ExL1
  rw[List.take_of_length_le (show l.length<=i by omega)]
  simp only[SS]
  refine⟨fun h=>by omega,fun _=> ?_⟩
  refine At.treeD (ctr_ok libT_ok qnone_ok) (ExE1_eq k n s a (Tm.cellsL l)) ?_
  unfold ExE1
  exact⟨cdR1_ok _,rfl,rfl⟩
 | succ m ih =>
  intro i hm hi
  have h1:i<l.length:=by omega
  have hx:=cellsL_get h1
  have hC:=H _ (List.getElem_mem h1)
  have hI:=ih (i+1) (by omega) (by omega)
  have ht:Tm.cellsL (l.take (i+1))=Tm.cellsL (l.take i)++[l[i].cells]:=by
   rw[List.take_add_one,List.getElem?_eq_getElem h1,cellsL_app]; rfl
  have hlen:(Tm.cellsL (l.take i)).length=i:=by rw[cellsL_length,List.length_take]; omega
  have hset: ∀ c:List D,(Tm.cellsL (l.take i)++[[D.int .u8 0,D.int .i64 0,D.str [],D.slice [] []]]).set i c=Tm.cellsL (l.take i)++[c]:=fun c=>by
   have:=set_last (Tm.cellsL (l.take i)) [D.int .u8 0,D.int .i64 0,D.str [],D.slice [] []] c
   rwa [hlen] at this
  rw[ht] at hI
  unfold CopP at hC
  generalize l[i]=x at hx hC hI
  obtain⟨kx,nx,sx,ax⟩:=x
  refine At.treeD (ctr_ok (asmP_ok _) qnone_ok) (ExL1_eq k n s a (Tm.cellsL (l.take i)) (Tm.cellsL l) l.length i kx nx sx (Tm.cellsL ax)) ?_
  unfold ExL1
  simp only[SS,hlen,List.length_append,List.length_cons,List.length_nil,hset]
  exact⟨fun _=>⟨⟨by omega,hx⟩,hC,⟨by simp[allLen],by omega⟩,by omega,by omega,by omega,hI⟩,fun h=>by omega⟩
theorem exL0_at (k:Nat) (n:Int) (s:List UInt8) (a:List (List D)) (l:List Tm) (hl:l.length<=1000) (H: ∀ y∈l,CopP y) (hne:l≠[]) :
  At Tryz.prog 3 (cut scP15 0) (hdE (Tm.cellsL l) l.length 0 (obE k n s a)) (QE (RV1 l)):=by
 match l,hne,H,hl with
 | x::r,_,H,hl =>
  have hC:=H x (List.mem_cons_self ..)
  have hI:=exL_at k n s a (x::r) hl H _ 1 rfl (by simp)
  unfold CopP at hC
  obtain⟨kx,nx,sx,ax⟩:=x
  refine At.treeD (ctr_ok (asmP_ok _) qnone_ok) (ExL0_eq k n s a (Tm.cellsL (.mk kx nx sx ax::r)) (.mk kx nx sx ax::r:List Tm).length 0 kx nx sx (Tm.cellsL ax)) ?_
  unfold ExL0
  have hp:(0:Int)<((Tm.mk kx nx sx ax::r:List Tm).length:Int):=by simp only[List.length_cons]; omega
  have h0:(Tm.cellsL (.mk kx nx sx ax::r))[0]? = some [.int .u8 kx,.int .i64 nx,.str sx,.slice (Tm.cellsL ax) []]:=rfl
  simp only[SS]
  exact⟨fun _=>⟨⟨by omega,h0⟩,hC,⟨by simp[allLen],by omega⟩,by decide,by decide,by omega,hI⟩,fun h=>by omega⟩
def xrL:XR->List Tm
 | .ok l=>l
 | _=>[]
def xrE:XR->Int
 | .ok _=>0
 | .many=>5
 | .arg=>2
def xrR:XR->D->Obs->Prop:=fun x=>match x with
 | .ok (y::r)=>RV1 (y::r)
 | x=>fun r o=>r= .tuple [.nils,.int .i64 (xrE x)]/\o=[]
theorem few_le: ∀ (x:Tm) {a b:Nat},a<=b->x.few a->x.few b
 | .mk k n s l,a,b,h,hx=>by
  simp only[Tm.few] at hx ⊢
  exact⟨Nat.le_trans hx.1 h,fewL_all.2 fun y hy=>few_le y h (fewL_all.1 hx.2 y hy)⟩
termination_by x=>SizeOf.sizeOf x
decreasing_by
 have:=List.sizeOf_lt_of_mem hy
 simp only[Tm.mk.sizeOf_spec]
 omega
theorem shape_few: ∀ (v:Tm),v.all Tm.shape=true->v.few 1000
 | .mk k n s l,hs=>by
  have hs:=all_split.1 hs
  simp only[Tm.few]
  have IH: ∀ y∈l,y.few 1000:=fun y hy=>shape_few y (hs.2 y hy)
  refine⟨?_,fewL_all.2 IH⟩
  have h1:=hs.1
  simp only[Tm.shape,shapeB] at h1
  (repeat' split at h1) <;> simp_all <;> omega
termination_by v=>SizeOf.sizeOf v
decreasing_by
 have:=List.sizeOf_lt_of_mem hy
 simp only[Tm.mk.sizeOf_spec]
 omega
theorem expandC (x:Tm) (hx:x.wf 281474976710656) (hd:x.depth<=1000000000):CallL Tryz.prog (.func (.func 15) [] []) [.agg x.cells] [] (xrR x.expd):=by
 have hv:=valid_ok x hx hd
 have hg:=ground_ok x hx
 have hfew:x.valid=true->x.few 1000:=fun h=>shape_few x (valid_iff.1 h).2
 have hsh:x.valid=true->x.all Tm.shape=true:=fun h=>(valid_iff.1 h).2
 unfold Tm.expd
 generalize hvv:x.valid=v at hv hfew hsh
 generalize hgg:x.all Tm.gr=g at hg
 obtain⟨k,n,s,a⟩:=x
 refine CallL.treeD hdraw fpP15 (dCtr_ok qnone_ok) (ExA_eq k n s (Tm.cellsL a) v g) ?_
 unfold ExA
 rw[ok_owe,ok_br,ok_owe,ok_br]
 refine⟨hv,fun h=> ?_,fun h=>⟨hg,fun h'=> ?_,fun h'=> ?_⟩⟩
 ·have:v=false:=by simpa using h
  subst this
  exact⟨rfl,rfl⟩
 ·have:g=false:=by simpa using h'
  subst this
  simp only[Bool.and_false,Bool.false_eq_true,if_false]
  exact⟨rfl,rfl⟩
 ·have e1:v=true:=by simpa using h
  have e2:g=true:=by simpa using h'
  subst e1; subst e2
  simp only[Bool.and_self,if_true]
  refine KDef.at (k2:=3) 39 [] [.ptr 1 0,.ptr 2 0] rfl (by kernel_rfl) (Nat.le_of_ble_eq_true rfl) (Nat.zero_le _) (Nat.le_of_ble_eq_true rfl) ?_
  refine At.treeD (ctr_ok libT_ok qnone_ok) (ExB_eq k n s (Tm.cellsL a)) ?_
  unfold ExB
  rw[ok_jmp]
  cases hxp:(Tm.mk k n s a).xp with
  | none =>
   have hC:=expn_ok _ (hfew rfl) (hsh rfl) hgg hxp
   refine At.treeD (ctr_ok libT_ok (asmJ_ok _ _ _)) (ExC_eq k n s (Tm.cellsL a) false []) ?_
   unfold ExC
   rw[ok_br]
   refine⟨fun h=>(Bool.noConfusion h),fun _=>⟨hC,cdP_ok,rfl,rfl⟩⟩
  | some l =>
   have hC:=FnOK.callS pureE (expg_ok _ l (hfew rfl) (hsh rfl) hgg hxp)
   have hl:=xp_len hxp
   have H: ∀ y∈l,CopP y:=fun y hy=>by
    have:=xp_value _ l y (hsh rfl) hgg hxp hy
    exact cop_ok y (few_le y (by decide) (value_wf y this.2.1 this.1).1)
   refine At.treeD (ctr_ok libT_ok (asmJ_ok _ _ _)) (ExC_eq k n s (Tm.cellsL a) true (Tm.cellsL l)) ?_
   unfold ExC
   rw[ok_br]
   refine⟨fun _=>⟨hC, ?_⟩,fun h=>(Bool.noConfusion h)⟩
   cases l with
   | nil =>
    refine At.treeD (ctr_ok (asmP_ok _) qnone_ok) (ExL0_eq k n s (Tm.cellsL a) [] 0 0 0 0 [] []) ?_
    unfold ExL0
    simp only[SS]
    refine⟨fun h=>by omega,fun _=> ?_⟩
    refine At.treeD (ctr_ok libT_ok qnone_ok) (ExE0_eq k n s (Tm.cellsL a)) ?_
    unfold ExE0
    exact⟨cdR0_ok,rfl,rfl⟩
   | cons y r =>
    have hA:=exL0_at k n s (Tm.cellsL a) (y::r) hl H (by simp)
    rw[ok_jmp,cellsL_length]
    exact hA
theorem pureX:pureF Tryz.prog 15=true:=by kernel_rfl
theorem expand_ok (x:Tm) (hx:x.wf 281474976710656) (hd:x.depth<=1000000000):FnOK Tryz.prog 15 [.agg x.cells] (.tuple [.slice (Tm.cellsL (xrL x.expd)) [],.int .i64 (xrE x.expd)]):=by
 have hC:=expandC x hx hd
 generalize x.expd=e at hC
 have low: ∀ e:XR,xrL e=[]->CallL Tryz.prog (.func (.func 15) [] []) [.agg x.cells] [] (fun r o=>r= .tuple [.nils,.int .i64 (xrE e)]/\o=[])->FnOK Tryz.prog 15 [.agg x.cells] (.tuple [.slice (Tm.cellsL (xrL e)) [],.int .i64 (xrE e)]):=fun e he hC=>by
  rw[he]
  exact FnOK.of_call pureX (hC.mono fun r ob ⟨h1,h2⟩=>by subst h1; subst h2; exact .inr ⟨rfl,rfl⟩)
 match e,hC with
 | .many,hC=>exact low .many rfl hC
 | .arg,hC=>exact low .arg rfl hC
 | .ok [],hC=>exact low (.ok []) rfl hC
 | .ok (y::r),hC =>
  exact FnOK.of_call pureX (hC.mono fun r0 ob ⟨h1,h2⟩=>by subst h1; subst h2; exact .inr ⟨rfl,rfl⟩)
end Go.Proofs.YtfoklncmfoogcaaGreatDoor
