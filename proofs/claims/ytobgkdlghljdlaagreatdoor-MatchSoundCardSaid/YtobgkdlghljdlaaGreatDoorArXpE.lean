/- Own work: a layer over the kit: plain data,a walk over it,its soundness. -/
import Derived.Test.YtobgkdlghljdlaaGreatDoorArXpP
import Derived.Test.YtobgkdlghljdlaaGreatDoorSx11
import Derived.Test.YtobgkdlghljdlaaGreatDoorMoC
set_option linter.unusedSectionVars false
set_option linter.unusedVariables false
set_option linter.unusedSimpArgs false
set_option linter.deprecated false
set_option maxRecDepth 100000
/- arith.Expand. -/
namespace Go.Proofs.YtobgkdlghljdlaaGreatDoor
open Go.Sx
def dfrB:SC->SC
 | .seq (.spec (.dfr _ _)) b=>b
 | .seq _ b=>dfrB b
 | c=>c
def clE:D:= .func (.func 47) [] [.ptr 1 0,.ptr 2 0]
def tDE:FrameMode->Obs->Option (FrameMode × Obs):=fun u ob=>match u with
 | .returning=>some (.returning,ob)
 | .panicking [⟨v,false,false⟩]=>some (.panicking [⟨v,true,false⟩],[(0,.cells [.nils]),(1,.cells [.int .i64 5])])
 | _=>none
theorem ExA_eq (k n:Int) (s:LU) (a:LD) (v g:Bool):goD (dCtr [(7,dB v),(11,dB g)]) 0 rsP22 scP22 { tm:=envOf 0 [dA (tC k n s a)],ob:=[] }=(Ow (FK 15 [dA (tC k n s a)] (dB v)) (brT (!v) (Rt (D.tuple [D.nils,dI (2:Int)]) []) (Ow (FK 21 [dA (tC k n s a)] (dB g)) (brT (!g) (Rt (D.tuple [D.nils,dI (2:Int)]) []) (Jm [Fr.sc (SC.seq (SC.spec (Sp.dfr [] (xt 14))) (SC.seq (SC.spec (Sp.frg [1,2,3])) (SC.seq (SC.seq (SC.spec (Sp.pan [so 15 (AOp.load true 4) [xt 1],SOp.cd (some 16) none (xc (dF 48 [] [])) [xt 15],so 17 (AOp.len false) [xt 16],so 18 AOp.mv [xc (dI (0:Int))]])) (SC.block 0 (SC.loop [2,3,16,17,18] (SC.seq (SC.reg [so 19 (AOp.bin BinOp.lss) [xt 18,xt 17]]) (SC.seq (SC.cond (xt 19) SC.skip (SC.exit 0)) (SC.seq (SC.block 1 (SC.seq (SC.reg [so 20 (AOp.iaddr 4) [xt 16,xt 18],so 21 (AOp.load true 4) [xt 20],so 5 (AOp.alloc [dU (0:Int),dI (0:Int),dS [],D.nils]) [],SOp.st none (SK.c 4) (xt 5) (xt 21)]) (SC.drw [0,0,2,1,0,31,63,127,63] [so 22 (AOp.load false 1) [xt 2],so 23 (AOp.load true 4) [xt 5],so 24 (AOp.call 49) [xt 23],so 25 (AOp.len false) [xt 22],so 26 (AOp.bslice true 4 1 35 [dU (0:Int),dI (0:Int),dS [],dL [] []] [(0,4)]) [xc (dA [dU (0:Int),dI (0:Int),dS [],dL [] []])],SOp.app 27 none false 4 35 (xt 22) (xt 26),so 28 (AOp.iaddr 4) [xt 27,xt 25],SOp.st none (SK.c 4) (xt 28) (xt 24),SOp.st none (SK.c 1) (xt 2) (xt 27)]))) (SC.reg [so 29 (AOp.bin BinOp.add) [xt 18,xc (dI (1:Int))],so 18 AOp.mv [xt 29]]))))))) (SC.seq (SC.spec (Sp.frg [2,3])) (SC.seq (SC.reg [so 30 (AOp.load false 1) [xt 2],SOp.st none (SK.c 1) (xt 2) (xt 30),SOp.st none (SK.c 1) (xt 3) (xc (dI (0:Int)))]) SC.ret)))))] { tm:=[(14,dF 47 [] [dP 1 0,dP 2 0]),(1,dP 0 0),(2,dP 1 0),(3,dP 2 0)],ob:=[(0,oC (tC k n s a)),(1,oC [D.nils]),(2,oC [dI (0:Int)])] })))):Tr):=by kernel_rfl
def obE (k n:Int) (s:LU) (a:LD):Obs:=[(0,.cells [.int .u8 k,.int .i64 n,.str s,.slice a []]),(1,.cells [.nils]),(2,.cells [.int .i64 0])]
theorem ExB_eq (k n:Int) (s:LU) (a:LD):goT Tryz.prog (ctr libT) 3 (finDf Tryz.prog tDE 0 3 rsP22 clE) 2000 [Fr.sc (dfrB scP22)] { tm:=[(14,dF 47 [] [dP 1 0,dP 2 0]),(1,dP 0 0),(2,dP 1 0),(3,dP 2 0)],ob:=obE k n s a }=(Jm (frg scP22 2) { tm:=[(1,dP 0 0),(2,dP 1 0),(3,dP 2 0)],ob:=[(0,oC (tC k n s a)),(1,oC [D.nils]),(2,oC [dI (0:Int)])] }:Tr):=by kernel_rfl
theorem ExC_eq (k n:Int) (s:LU) (a:LD) (b:Bool) (es:LD):goT Tryz.prog (ctr libT (asmJ b (dL es []) id)) 3 (finDf Tryz.prog tDE 0 3 rsP22 clE) 2000 (frg scP22 2) { tm:=[(1,dP 0 0),(2,dP 1 0),(3,dP 2 0)],ob:=obE k n s a }=(brT b (Ow (CF 48 [dA (tC k n s a)] [] fun r0 ob0=>r0=dL es []/\ob0=[]) (Jm (cut scP22 0) { tm:=[(2,dP 1 0),(3,dP 2 0),(16,dL es []),(17,dI (↑(List.length es):Int)),(18,dI (0:Int))],ob:=[(0,oC (tC k n s a)),(1,oC [D.nils]),(2,oC [dI (0:Int)])] })) (Ow (CF 48 [dA (tC k n s a)] [] fun r0 ob0=>r0=D.pan manyV/\ob0=[]) (Ow (Sx.CallD Tryz.prog (FrameMode.panicking [{ v:=manyV,recovered:=false }]) (dF 47 [] [dP 0 0,dP 1 0]) [(0,oC [D.nils]),(1,oC [dI (0:Int)])] fun u0 ob0=>u0=FrameMode.panicking [{ v:=manyV,recovered:=true }]/\ob0=[(0,oC [D.nils]),(1,oC [dI (5:Int)])]) (Rt (D.tuple [D.nils,dI (5:Int)]) []))):Tr):=by kernel_rfl
def obE1 (k n:Int) (s:LU) (a row:LD):Obs:=[(0,.cells [.int .u8 k,.int .i64 n,.str s,.slice a []]),(1,.cells [.vec 3]),(2,.cells [.int .i64 0]),(3,.arr false 4 35 row)]
def hdE (es:LD) (m i:Int) (ob:Obs):St:=⟨[(2,.ptr 1 0),(3,.ptr 2 0),(16,.slice es []),(17,.int .i64 m),(18,.int .i64 i)],ob⟩
theorem ExL0_eq (k n:Int) (s:LU) (a es:LD) (m:Int) (i:Nat) (kx nx:Int) (sx:LU) (ax:LD):goT Tryz.prog (ctr (asmP (dA (tC kx nx sx ax))) qnone (eOne (tC kx nx sx ax))) 3 (finDf Tryz.prog tDE 0 3 rsP22 clE) 2000 (cut scP22 0) (hdE es m (↑i:Int) (obE k n s a))=(brT (decide ((↑i:Int)<m)) (Ow ((0:Int)<=(↑i:Int)/\es[Int.toNat (↑i:Int)]? = some (tC kx nx sx ax)) (Ow (FK 49 [dA (tC kx nx sx ax)] (dA (tC kx nx sx ax))) (Ow (allLen 4 [[dU (0:Int),dI (0:Int),dS [],dL [] []]]/\1<=1073741824) (Ow ((0:Int)<=(0:Int)/\(0:Int)<(↑(1:Nat):Int)) (Ow (0<1) (Ow ((-9223372036854775808:Int)<=(↑i:Int)+(1:Int)/\(↑i:Int)+(1:Int)<=(9223372036854775807:Int)) (Jm (cut scP22 0) { tm:=[(2,dP 1 0),(3,dP 2 0),(16,dL es []),(17,dI m),(18,dI ((↑i:Int)+(1:Int)))],ob:=[(0,oC (tC k n s a)),(1,oC [dV 3]),(2,oC [dI (0:Int)]),(3,oR false 4 35 [(tC kx nx sx ax)])] }))))))) (Jm (frg scP22 3) { tm:=[(2,dP 1 0),(3,dP 2 0)],ob:=[(0,oC (tC k n s a)),(1,oC [D.nils]),(2,oC [dI (0:Int)])] }):Tr):=by kernel_rfl
theorem ExL1_eq (k n:Int) (s:LU) (a row es:LD) (m:Int) (i:Nat) (kx nx:Int) (sx:LU) (ax:LD):goT Tryz.prog (ctr (asmP (dA (tC kx nx sx ax))) qnone (eOne (tC kx nx sx ax))) 3 (finDf Tryz.prog tDE 0 3 rsP22 clE) 2000 (cut scP22 0) (hdE es m (↑i:Int) (obE1 k n s a row))=(brT (decide ((↑i:Int)<m)) (Ow ((0:Int)<=(↑i:Int)/\es[Int.toNat (↑i:Int)]? = some (tC kx nx sx ax)) (Ow (FK 49 [dA (tC kx nx sx ax)] (dA (tC kx nx sx ax))) (Ow (allLen 4 [[dU (0:Int),dI (0:Int),dS [],dL [] []]]/\List.length row+1<=1073741824) (Ow ((0:Int)<=(↑(List.length row):Int)/\(↑(List.length row):Int)<(↑(List.length (row++[[dU (0:Int),dI (0:Int),dS [],dL [] []]])):Int)) (Ow (Int.toNat (↑(List.length row):Int)<List.length (row++[[dU (0:Int),dI (0:Int),dS [],dL [] []]])) (Ow ((-9223372036854775808:Int)<=(↑i:Int)+(1:Int)/\(↑i:Int)+(1:Int)<=(9223372036854775807:Int)) (Jm (cut scP22 0) { tm:=[(2,dP 1 0),(3,dP 2 0),(16,dL es []),(17,dI m),(18,dI ((↑i:Int)+(1:Int)))],ob:=[(0,oC (tC k n s a)),(1,oC [dV 3]),(2,oC [dI (0:Int)]),(3,oR false 4 35 (List.set (row++[[dU (0:Int),dI (0:Int),dS [],dL [] []]]) (Int.toNat (↑(List.length row):Int)) (tC kx nx sx ax)))] }))))))) (Jm (frg scP22 3) { tm:=[(2,dP 1 0),(3,dP 2 0)],ob:=[(0,oC (tC k n s a)),(1,oC [dV 3]),(2,oC [dI (0:Int)]),(3,oR false 4 35 row)] }):Tr):=by kernel_rfl
theorem ExE0_eq (k n:Int) (s:LU) (a:LD):goT Tryz.prog (ctr libT) 3 (finDf Tryz.prog tDE 0 3 rsP22 clE) 2000 (frg scP22 3) { tm:=[(2,dP 1 0),(3,dP 2 0)],ob:=obE k n s a }=(Ow (Sx.CallD Tryz.prog FrameMode.returning (dF 47 [] [dP 0 0,dP 1 0]) [(0,oC [D.nils]),(1,oC [dI (0:Int)])] fun u0 ob0=>u0=FrameMode.returning/\ob0=[(0,oC [D.nils]),(1,oC [dI (0:Int)])]) (Rt (D.tuple [D.nils,dI (0:Int)]) []):Tr):=by kernel_rfl
theorem ExE1_eq (k n:Int) (s:LU) (a row:LD):goT Tryz.prog (ctr libT) 3 (finDf Tryz.prog tDE 0 3 rsP22 clE) 2000 (frg scP22 3) { tm:=[(2,dP 1 0),(3,dP 2 0)],ob:=obE1 k n s a row }=(Ow (Sx.CallD Tryz.prog FrameMode.returning (dF 47 [] [dP 0 0,dP 1 0]) [(0,oC [dV 2]),(1,oC [dI (0:Int)]),(2,oR false 4 35 row)] fun u0 ob0=>u0=FrameMode.returning/\ob0=[(0,oC [dV 2]),(1,oC [dI (0:Int)]),(2,oR false 4 35 row)]) (Rt (D.tuple [dV 0,dI (0:Int)]) [(0,oR false 4 35 row)]):Tr):=by kernel_rfl
def rcvO:SC->List SOp
 | .seq (.spec (.rcv _ ops)) _=>ops
 | _=>[]
def rcvB:SC->SC
 | .seq (.spec (.rcv _ _)) b=>b
 | c=>c
def stR (u:FrameMode) (ob:Obs):St:=⟨(5,.raw (recM u).1)::eraseId 5 (envOf 0 [.ptr 0 0,.ptr 1 0]),ob⟩
def obR0:Obs:=[(0,.cells [.nils]),(1,.cells [.int .i64 0])]
def obR1 (row:LD):Obs:=[(0,.cells [.vec 2]),(1,.cells [.int .i64 0]),(2,.arr false 4 35 row)]
theorem CdR0_eq (z:Nat):goRc Tryz.prog (ctr libT) 2 2000 (rcvO scP47) (rcvB scP47) (stR FrameMode.returning obR0)=(Rt (D.tuple []) [(0,oC [D.nils]),(1,oC [dI (0:Int)])]:Tr):=by kernel_rfl
theorem CdR1_eq (row:LD):goRc Tryz.prog (ctr libT) 3 2000 (rcvO scP47) (rcvB scP47) (stR FrameMode.returning (obR1 row))=(Rt (D.tuple []) [(0,oC [dV 2]),(1,oC [dI (0:Int)]),(2,oR false 4 35 row)]:Tr):=by kernel_rfl
theorem CdP_eq (z:Nat):goRc Tryz.prog (ctr libT) 2 2000 (rcvO scP47) (rcvB scP47) (stR (FrameMode.panicking [{ v:=manyV,recovered:=false }]) obR0)=(Rt (D.tuple []) [(0,oC [D.nils]),(1,oC [dI (5:Int)])]:Tr):=by kernel_rfl
theorem fnD:FnC Tryz.prog 47 10 (.seq (.spec (.rcv 5 (rcvO scP47))) (rcvB scP47)) []:=fpP47.1
theorem cdR0_ok:Sx.CallD Tryz.prog .returning (.func (.func 47) [] [.ptr 0 0,.ptr 1 0]) obR0 fun u o=>u= .returning/\o=obR0 :=
 CallD.tree hdraw fnD (first:=[]) (ctr_ok libT_ok qnone_ok) (CdR0_eq 0) ⟨rfl,rfl⟩
theorem cdR1_ok (row:LD):Sx.CallD Tryz.prog .returning (.func (.func 47) [] [.ptr 0 0,.ptr 1 0]) (obR1 row) fun u o=>u= .returning/\o=obR1 row :=
 CallD.tree hdraw fnD (first:=[]) (ctr_ok libT_ok qnone_ok) (CdR1_eq row) ⟨rfl,rfl⟩
theorem cdP_ok:Sx.CallD Tryz.prog (.panicking [⟨manyV,false,false⟩]) (.func (.func 47) [] [.ptr 0 0,.ptr 1 0]) obR0 fun u o=>u= .panicking [⟨manyV,true,false⟩]/\o=[(0,.cells [.nils]),(1,.cells [.int .i64 5])] :=
 CallD.tree hdraw fnD (first:=[]) (ctr_ok libT_ok qnone_ok) (CdP_eq 0) ⟨rfl,rfl⟩
abbrev QE (R:D->Obs->Prop):Exit->St->Prop:=DefQ Tryz.prog 0 3 rsP22 clE (RE false R)
abbrev RV1 (l:List Tm):D->Obs->Prop:=fun r o=>r= .tuple [.vec 0,.int .i64 0]/\o=[(0,.arr false 4 35 (Tm.cellsL l))]
theorem exL_at (k:Nat) (n:Int) (s:LU) (a:LD) (l:List Tm) (hl:l.length<=1000) (H: ∀ y∈l,CopP y): ∀ (m i:Nat),l.length-i=m->i<=l.length →
  At Tryz.prog 3 (cut scP22 0) (hdE (Tm.cellsL l) l.length i (obE1 k n s a (Tm.cellsL (l.take i)))) (QE (RV1 l)):=by
 intro m
 induction m with
 | zero =>
  intro i hm hi
  refine At.treeD (ctr_ok (asmP_ok _) qnone_ok) (ExL1_eq k n s a (Tm.cellsL (l.take i)) (Tm.cellsL l) l.length i 0 0 [] []) ?_
  rw[List.take_of_length_le (show l.length<=i by omega)]
  simp only[SS]
  refine⟨fun h=>by omega,fun _=> ?_⟩
  refine At.treeD (ctr_ok libT_ok qnone_ok) (ExE1_eq k n s a (Tm.cellsL l)) ?_
  exact⟨cdR1_ok _,rfl,rfl⟩
 | succ m ih =>
  intro i hm hi
  have h1:i<l.length:=by omega
  have hx:=cellsL_get h1
  have hC:=H _ (List.getElem_mem h1)
  have hI:=ih (i+1) (by omega) (by omega)
  have ht:Tm.cellsL (l.take (i+1))=Tm.cellsL (l.take i)++[l[i].cells]:=by
   rw[List.take_add_one,List.getElem?_eq_getElem h1,cellsL_app]; rfl
  have hlen:(Tm.cellsL (l.take i)).length=i:=by rw[cellsL_length,List.length_take]; omega
  have hset: ∀ c:List D,(Tm.cellsL (l.take i)++[[dU 0,dI 0,dS [],dL [] []]]).set i c=Tm.cellsL (l.take i)++[c]:=fun c=>by
   have:=set_last (Tm.cellsL (l.take i)) [dU 0,dI 0,dS [],dL [] []] c
   rwa [hlen] at this
  rw[ht] at hI
  unfold CopP at hC
  generalize l[i]=x at hx hC hI
  obtain⟨kx,nx,sx,ax⟩:=x
  refine At.treeD (ctr_ok (asmP_ok _) qnone_ok) (ExL1_eq k n s a (Tm.cellsL (l.take i)) (Tm.cellsL l) l.length i kx nx sx (Tm.cellsL ax)) ?_
  simp only[SS,hlen,List.length_append,List.length_cons,List.length_nil,hset]
  exact⟨fun _=>⟨⟨by omega,hx⟩,hC,⟨by simp[allLen],by omega⟩,by omega,by omega,by omega,hI⟩,fun h=>by omega⟩
theorem exL0_at (k:Nat) (n:Int) (s:LU) (a:LD) (l:List Tm) (hl:l.length<=1000) (H: ∀ y∈l,CopP y) (hne:l≠[]) :
  At Tryz.prog 3 (cut scP22 0) (hdE (Tm.cellsL l) l.length 0 (obE k n s a)) (QE (RV1 l)):=by
 match l,hne,H,hl with
 | x::r,_,H,hl =>
  have hC:=H x (List.mem_cons_self ..)
  have hI:=exL_at k n s a (x::r) hl H _ 1 rfl (by simp)
  unfold CopP at hC
  obtain⟨kx,nx,sx,ax⟩:=x
  refine At.treeD (ctr_ok (asmP_ok _) qnone_ok) (ExL0_eq k n s a (Tm.cellsL (.mk kx nx sx ax::r)) (.mk kx nx sx ax::r:List Tm).length 0 kx nx sx (Tm.cellsL ax)) ?_
  have hp:(0:Int)<((Tm.mk kx nx sx ax::r:List Tm).length:Int):=by simp only[List.length_cons]; omega
  have h0:(Tm.cellsL (.mk kx nx sx ax::r))[0]? = some [.int .u8 kx,.int .i64 nx,.str sx,.slice (Tm.cellsL ax) []]:=rfl
  simp only[SS]
  exact⟨fun _=>⟨⟨by omega,h0⟩,hC,⟨by simp[allLen],by omega⟩,by decide,by decide,by omega,hI⟩,fun h=>by omega⟩
def xrL:XR->List Tm
 | .ok l=>l
 | _=>[]
def xrE:XR->Int
 | .ok _=>0
 | .many=>5
 | .arg=>2
def xrR:XR->D->Obs->Prop:=fun x=>match x with
 | .ok (y::r)=>RV1 (y::r)
 | x=>fun r o=>r= .tuple [.nils,.int .i64 (xrE x)]/\o=[]
theorem few_le: ∀ (x:Tm) {a b:Nat},a<=b->x.few a->x.few b
 | .mk k n s l,a,b,h,hx=>by
  simp only[Tm.few] at hx ⊢
  exact⟨Nat.le_trans hx.1 h,fewL_all.2 fun y hy=>few_le y h (fewL_all.1 hx.2 y hy)⟩
termination_by x=>SizeOf.sizeOf x
decreasing_by
 have:=List.sizeOf_lt_of_mem hy
 simp only[Tm.mk.sizeOf_spec]
 omega
theorem shape_few: ∀ (v:Tm),v.all Tm.shape=true->v.few 1000
 | .mk k n s l,hs=>by
  have hs:=all_split.1 hs
  simp only[Tm.few]
  have IH: ∀ y∈l,y.few 1000:=fun y hy=>shape_few y (hs.2 y hy)
  refine⟨?_,fewL_all.2 IH⟩
  have h1:=hs.1
  simp only[Tm.shape,shapeB] at h1
  (repeat' split at h1) <;> simp_all <;> omega
termination_by v=>SizeOf.sizeOf v
decreasing_by
 have:=List.sizeOf_lt_of_mem hy
 simp only[Tm.mk.sizeOf_spec]
 omega
theorem expandC (x:Tm) (hx:x.wf 281474976710656) (hd:x.depth<=1000000000):CF 22 [.agg x.cells] [] (xrR x.expd):=by
 have hv:=valid_ok x hx hd
 have hg:=ground_ok x hx
 have hfew:x.valid=true->x.few 1000:=fun h=>shape_few x (valid_iff.1 h).2
 have hsh:x.valid=true->x.all Tm.shape=true:=fun h=>(valid_iff.1 h).2
 unfold Tm.expd
 generalize hvv:x.valid=v at hv hfew hsh
 generalize hgg:x.all Tm.gr=g at hg
 obtain⟨k,n,s,a⟩:=x
 refine CallL.treeD hdraw fpP22 (dCtr_ok qnone_ok) (ExA_eq k n s (Tm.cellsL a) v g) ?_
 rw[ok_owe,ok_br,ok_owe,ok_br]
 refine⟨hv,fun h=> ?_,fun h=>⟨hg,fun h'=> ?_,fun h'=> ?_⟩⟩
 ·have:v=false:=by simpa using h
  subst this
  exact⟨rfl,rfl⟩
 ·have:g=false:=by simpa using h'
  subst this
  simp only[Bool.and_false,Bool.false_eq_true,if_false]
  exact⟨rfl,rfl⟩
 ·have e1:v=true:=by simpa using h
  have e2:g=true:=by simpa using h'
  subst e1; subst e2
  simp only[Bool.and_self,if_true]
  refine KDef.at (k2:=3) 47 [] [.ptr 1 0,.ptr 2 0] rfl (by kernel_rfl) (Nat.le_of_ble_eq_true rfl) (Nat.zero_le _) (Nat.le_of_ble_eq_true rfl) ?_
  refine At.treeD (ctr_ok libT_ok qnone_ok) (ExB_eq k n s (Tm.cellsL a)) ?_
  rw[ok_jmp]
  cases hxp:(Tm.mk k n s a).xp with
  | none =>
   have hC:=expn_ok _ (hfew rfl) (hsh rfl) hgg hxp
   refine At.treeD (ctr_ok libT_ok (asmJ_ok _ _ _)) (ExC_eq k n s (Tm.cellsL a) false []) ?_
   rw[ok_br]
   refine⟨fun h=>(Bool.noConfusion h),fun _=>⟨hC,cdP_ok,rfl,rfl⟩⟩
  | some l =>
   have hC:=FnOK.callS pureE (expg_ok _ l (hfew rfl) (hsh rfl) hgg hxp)
   have hl:=xp_len hxp
   have H: ∀ y∈l,CopP y:=fun y hy=>by
    have:=xp_value _ l y (hsh rfl) hgg hxp hy
    exact cop_ok y (few_le y (by decide) (value_wf y this.2.1 this.1).1)
   refine At.treeD (ctr_ok libT_ok (asmJ_ok _ _ _)) (ExC_eq k n s (Tm.cellsL a) true (Tm.cellsL l)) ?_
   rw[ok_br]
   refine⟨fun _=>⟨hC, ?_⟩,fun h=>(Bool.noConfusion h)⟩
   cases l with
   | nil =>
    refine At.treeD (ctr_ok (asmP_ok _) qnone_ok) (ExL0_eq k n s (Tm.cellsL a) [] 0 0 0 0 [] []) ?_
    simp only[SS]
    refine⟨fun h=>by omega,fun _=> ?_⟩
    refine At.treeD (ctr_ok libT_ok qnone_ok) (ExE0_eq k n s (Tm.cellsL a)) ?_
    exact⟨cdR0_ok,rfl,rfl⟩
   | cons y r =>
    have hA:=exL0_at k n s (Tm.cellsL a) (y::r) hl H (by simp)
    rw[ok_jmp,cellsL_length]
    exact hA
theorem pureX:pureF Tryz.prog 22=true:=by kernel_rfl
theorem expand_ok (x:Tm) (hx:x.wf 281474976710656) (hd:x.depth<=1000000000):FK 22 [.agg x.cells] (.tuple [.slice (Tm.cellsL (xrL x.expd)) [],.int .i64 (xrE x.expd)]):=by
 have hC:=expandC x hx hd
 generalize x.expd=e at hC
 have low: ∀ e:XR,xrL e=[]->CF 22 [.agg x.cells] [] (fun r o=>r= .tuple [.nils,.int .i64 (xrE e)]/\o=[])->FK 22 [.agg x.cells] (.tuple [.slice (Tm.cellsL (xrL e)) [],.int .i64 (xrE e)]):=fun e he hC=>by
  rw[he]
  exact FnOK.of_call pureX (hC.mono fun r ob ⟨h1,h2⟩=>by subst h1; subst h2; exact .inr ⟨rfl,rfl⟩)
 match e,hC with
 | .many,hC=>exact low .many rfl hC
 | .arg,hC=>exact low .arg rfl hC
 | .ok [],hC=>exact low (.ok []) rfl hC
 | .ok (y::r),hC =>
  exact FnOK.of_call pureX (hC.mono fun r0 ob ⟨h1,h2⟩=>by subst h1; subst h2; exact .inr ⟨rfl,rfl⟩)
end Go.Proofs.YtobgkdlghljdlaaGreatDoor
/- match.lists,Match,MatchAtom at every argument. -/
namespace Go.Proofs.YtobgkdlghljdlaaGreatDoor
open Go.Sx
def fstI (g:Tm->Bool):List Tm->Nat->Int
 | [],_=> -1
 | a::r,i=>if g a=true then i else fstI g r (i+1)
theorem fstI_iff (g:Tm->Bool): ∀ (l:List Tm) (i:Nat),0<=fstI g l i ↔ l.any g=true
 | [],i=>by simp[fstI]
 | a::r,i=>by
  rw[fstI,List.any_cons,Bool.or_eq_true,<- fstI_iff g r (i+1)]
  by_cases h:g a=true
  ·rw[if_pos h]
   exact⟨fun _=> .inl h,fun _=>by omega⟩
  ·rw[if_neg h]
   exact⟨.inr,fun h2=>h2.resolve_left h⟩
theorem fstI_any (g:Tm->Bool) (l:List Tm) (i:Nat):decide (0<=fstI g l i)=l.any g:=by
 rw[Bool.eq_iff_iff,decide_eq_true_eq]
 exact fstI_iff g l i
theorem ix0_at (f:FuncId) (g:Tm->Bool) (l:List Tm) (hl:l.length<=1000000000) (H: ∀ x∈l,CallL Tryz.prog (.func (.func f) [] []) [.agg x.cells] [] fun r ob=>r= .bool (g x)/\ob=[]): ∀ (m i:Nat),l.length-i=m->i<=l.length →
  At Tryz.prog 0 (cut sc103 0) (hdIf (.func (.func f) [] []) (Tm.cellsL l) l.length i []) (FinQ false 0 rs103 fun r ob=>r= .int .i64 (fstI g (l.drop i) i)/\ob=[]):=by
 intro m
 induction m with
 | zero =>
  intro i hm hi
  refine At.tree mCtr_ok (NIx02_eq f (Tm.cellsL l) l.length i 0 0 [] [] true) ?_
  rw[List.drop_eq_nil_of_le (by omega)]
  simp only[SS]
  exact⟨fun h=>by omega,fun _=>by first | trivial | exact⟨rfl,rfl⟩⟩
 | succ m ih =>
  intro i hm hi
  have h1:i<l.length:=by omega
  have hx:=cellsL_get h1
  have hC:=H _ (List.getElem_mem h1)
  have hI:=ih (i+1) (by omega) (by omega)
  rw[drop_cons h1,fstI]
  generalize g l[i]=b at hC ⊢
  generalize l[i]=x at hx hC
  obtain⟨k,n,s,a⟩:=x
  refine At.tree mCtr_ok (NIx02_eq f (Tm.cellsL l) l.length i k n s (Tm.cellsL a) b) ?_
  simp only[SS]
  refine⟨fun _=>⟨⟨by omega,hx⟩,hC,fun h=> ?_,fun h=>⟨by omega, ?_⟩⟩,fun h=>by omega⟩
  ·rw[if_pos h]
  ·rw[if_neg (by rw[h]; decide)]; exact hI
theorem cf0_ok (f:FuncId) (g:Tm->Bool) (l:List Tm) (hl:l.length<=1000000000) (H: ∀ x∈l,CallL Tryz.prog (.func (.func f) [] []) [.agg x.cells] [] fun r ob=>r= .bool (g x)/\ob=[]):CF 69 [.slice (Tm.cellsL l) [],.func (.func f) [] []] [] fun r ob=>r= .bool (l.any g)/\ob=[]:=by
 have h1:CF 103 [.slice (Tm.cellsL l) [],.func (.func f) [] []] [] fun r ob=>r= .int .i64 (fstI g l 0)/\ob=[]:=by
  refine CallL.tree hdraw fp103 mCtr_ok (NIx0_eq f (Tm.cellsL l)) ?_
  rw[ok_jmp,cellsL_length]
  exact ix0_at f g l hl H _ 0 rfl (Nat.zero_le _)
 rw[<- fstI_any g l 0]
 generalize fstI g l 0=j at h1 ⊢
 refine CallL.tree hdraw fp69 mCtr_ok (NCf0_eq f (Tm.cellsL l) j) ?_
 exact⟨h1,rfl,rfl⟩
abbrev oX (p v:Tm):Obs:=[(0,.cells (p.cells++v.cells))]
theorem cc1_ok (p v x:Tm) (hx:x.wf 281474976710656) (hv:v.wf 281474976710656):CallL Tryz.prog fC [.agg x.cells] (oX p v) fun r ob=>r= .bool (x.eqb v)/\ob=oX p v:=by
 have he:=equal_ok x v hx hv
 generalize x.eqb v=b at he ⊢
 obtain⟨k,n,s,a⟩:=p
 obtain⟨k',n',s',a'⟩:=v
 obtain⟨kv,nv,sv,av⟩:=x
 refine CallL.tree hdraw fp106 mCtr_ok (NC1_eq k n s (Tm.cellsL a) k' n' s' (Tm.cellsL a') kv nv sv (Tm.cellsL av) b) ?_
 exact⟨by decide,he,rfl,rfl⟩
theorem ix1_at (p v:Tm) (hv:v.wf 281474976710656) (l:List Tm) (hl:l.length<=1000000000) (hw: ∀ x∈l,x.wf 281474976710656): ∀ (m i:Nat),l.length-i=m->i<=l.length →
  At Tryz.prog 1 (cut sc103 0) (hdIf fC (Tm.cellsL l) l.length i (oX p v)) (FinQ false 1 rs103 fun r ob=>r= .int .i64 (fstI (fun x=>x.eqb v) (l.drop i) i)/\ob=oX p v):=by
 intro m
 induction m with
 | zero =>
  intro i hm hi
  obtain⟨k1,n1,s1,a1⟩:=p
  obtain⟨k2,n2,s2,a2⟩:=v
  refine At.tree mCtr_ok (NIx12_eq k1 n1 s1 (Tm.cellsL a1) k2 n2 s2 (Tm.cellsL a2) (Tm.cellsL l) l.length i 0 0 [] [] true) ?_
  rw[List.drop_eq_nil_of_le (by omega)]
  simp only[SS]
  exact⟨fun h=>by omega,fun _=>by first | trivial | exact⟨rfl,rfl⟩⟩
 | succ m ih =>
  intro i hm hi
  have h1:i<l.length:=by omega
  have hx:=cellsL_get h1
  have hC:=cc1_ok p v l[i] (hw _ (List.getElem_mem h1)) hv
  have hI:=ih (i+1) (by omega) (by omega)
  rw[drop_cons h1,fstI]
  generalize l[i].eqb v=b at hC ⊢
  generalize l[i]=x at hx hC
  obtain⟨k,n,s,a⟩:=x
  obtain⟨k1,n1,s1,a1⟩:=p
  obtain⟨k2,n2,s2,a2⟩:=v
  refine At.tree mCtr_ok (NIx12_eq k1 n1 s1 (Tm.cellsL a1) k2 n2 s2 (Tm.cellsL a2) (Tm.cellsL l) l.length i k n s (Tm.cellsL a) b) ?_
  simp only[SS]
  refine⟨fun _=>⟨⟨by omega,hx⟩,hC,fun h=> ?_,fun h=>⟨by omega, ?_⟩⟩,fun h=>by omega⟩
  ·rw[if_pos h]; exact⟨rfl,rfl⟩
  ·rw[if_neg (by rw[h]; decide)]; exact hI
theorem cf1_ok (p v:Tm) (hv:v.wf 281474976710656) (l:List Tm) (hl:l.length<=1000000000) (hw: ∀ x∈l,x.wf 281474976710656):CF 69 [.slice (Tm.cellsL l) [],fC] (oX p v) fun r ob=>r= .bool (l.any fun x=>x.eqb v)/\ob=oX p v:=by
 have h1:CF 103 [.slice (Tm.cellsL l) [],fC] (oX p v) fun r ob=>r= .int .i64 (fstI (fun x=>x.eqb v) l 0)/\ob=oX p v:=by
  have hA:=ix1_at p v hv l hl hw _ 0 rfl (Nat.zero_le _)
  rw[List.drop_zero] at hA
  generalize fstI (fun x=>x.eqb v) l 0=j at hA ⊢
  obtain⟨k1,n1,s1,a1⟩:=p
  obtain⟨k2,n2,s2,a2⟩:=v
  refine CallL.tree hdraw fp103 mCtr_ok (NIx1_eq k1 n1 s1 (Tm.cellsL a1) k2 n2 s2 (Tm.cellsL a2) (Tm.cellsL l)) ?_
  rw[ok_jmp,cellsL_length]
  exact hA
 rw[<- fstI_any (fun x=>x.eqb v) l 0]
 generalize fstI (fun x=>x.eqb v) l 0=j at h1 ⊢
 obtain⟨k1,n1,s1,a1⟩:=p
 obtain⟨k2,n2,s2,a2⟩:=v
 refine CallL.tree hdraw fp69 mCtr_ok (NCf1_eq k1 n1 s1 (Tm.cellsL a1) k2 n2 s2 (Tm.cellsL a2) (Tm.cellsL l) j) ?_
 exact⟨h1,rfl,rfl⟩
theorem prD_get {os:List (Tm × Tm)} {i:Nat} (h:i<os.length):(prD os)[i]? = some (os[i].1.cells++os[i].2.cells):=by
 simp[prD,h]
theorem prD_len (os:List (Tm × Tm)):(prD os).length=os.length:=List.length_map ..
theorem xr_len {x:Tm} (hx:x.wf 281474976710656):(xrL x.expd).length<=1000/\ ∀ v∈xrL x.expd,v.wf 281474976710656:=by
 unfold Tm.expd
 split
 ·rename_i h
  simp only[Bool.and_eq_true] at h
  cases hq:x.xp with
  | none=>exact⟨Nat.zero_le _,fun v hv=>by cases hv⟩
  | some l=>exact⟨xp_len hq,fun v hv=>xp_wf x l v hx (valid_iff.1 h.1).2 h.2 hq hv⟩
 ·exact⟨Nat.zero_le _,fun v hv=>by cases hv⟩
theorem cls_eq (b:List Bd) (x:Tm × Tm):clsB b x=(decide (xrE (x.1.ap b).expd=0) && (xrL (x.1.ap b).expd).any fun y=>y.eqb x.2):=by
 unfold clsB
 cases (x.1.ap b).expd <;> simp[xrE,xrL]
theorem cls_at (b:List Bd) (os:List (Tm × Tm)) (hS:StB 0 b os): ∀ (m i:Nat),os.length-i=m->i<=os.length →
  At Tryz.prog 2 (cut sc71 0) (hdCl (bdL b) (prD os) os.length i) (FinQ false 2 rs71 fun r ob=>r= .bool ((os.drop i).all (clsB b))/\ob=sO b os):=by
 have hol:=hS.olen
 have hbl:=hS.len
 intro m
 induction m with
 | zero =>
  intro i hm hi
  refine At.tree (clC_ok apyQ_ok) (NCl2_eq (bdL b) (prD os) os.length i 0 0 [] [] 0 0 [] [] 0 0 [] [] [] 0 true) ?_
  rw[List.drop_eq_nil_of_le (by omega)]
  simp only[SS]
  exact⟨fun h=>by omega,fun _=>by first | trivial | exact⟨rfl,rfl⟩⟩
 | succ m ih =>
  intro i hm hi
  have h1:i<os.length:=by omega
  have hx:=prD_get h1
  obtain⟨⟨w1,w2,w3⟩,v1,v2,v3⟩:=hS.owf _ (List.getElem_mem h1)
  have hT:=nta_ok b (prD os) (by omega) hS.srt (fun x hx=>(hS.wf x hx).2.1) os[i].1 w2
  have aw:(os[i].1.ap b).wf 281474976710656:=ap_wf (fun x hx=>(hS.wf x hx).1) _ w1
  have ad:(os[i].1.ap b).depth<=os[i].1.depth+100000000:=ap_depth (fun x hx=>(hS.wf x hx).2.2) _
  have hE:=expand_ok (os[i].1.ap b) aw (by omega)
  obtain⟨xl,xw⟩:=xr_len aw
  have hF:=cf1_ok os[i].1 os[i].2 v1 (xrL (os[i].1.ap b).expd) (by omega) xw
  have hI:=ih (i+1) (by omega) (by omega)
  rw[drop_cons h1,List.all_cons,cls_eq]
  unfold NaP at hT
  clear aw ad xl xw w1 w2 w3 v1 v2 v3
  generalize (xrL (os[i].1.ap b).expd).any (fun y=>y.eqb os[i].2)=c at hF ⊢
  generalize xrL (os[i].1.ap b).expd=l at hE hF
  generalize xrE (os[i].1.ap b).expd=e at hE ⊢
  generalize os[i].1.ap b=t at hT hE
  generalize os[i]=q at hx hT hF
  obtain⟨⟨k,n,s,a⟩,⟨k',n',s',a'⟩⟩:=q
  obtain⟨kt,nt,st,ta⟩:=t
  refine At.tree (clC_ok apyQ_ok) (NCl2_eq (bdL b) (prD os) os.length i k n s (Tm.cellsL a) k' n' s' (Tm.cellsL a') kt nt st (Tm.cellsL ta) (Tm.cellsL l) e c) ?_
  simp only[SS]
  refine⟨fun _=>⟨⟨by omega,hx⟩,by omega,hT,hE,fun h=> ?_,fun h=>⟨hF,fun h2=> ?_,fun h2=>⟨by omega, ?_⟩⟩⟩,fun h=>by omega⟩
  ·rw[decide_eq_false h]; rfl
  ·rw[h2,Bool.and_false]; rfl
  ·rw[decide_eq_true h,h2]; exact hI
theorem cls_ok (b:List Bd) (os:List (Tm × Tm)) (hS:StB 0 b os):CF 71 [.ptr 0 0] (sO b os) fun r ob=>r= .bool (os.all (clsB b))/\ob=sO b os:=by
 refine CallL.tree hdraw fp71 mCtr_ok (NCl_eq (bdL b) (prD os)) ?_
 rw[ok_jmp,prD_len]
 exact cls_at b os hS _ 0 rfl (Nat.zero_le _)
theorem l1_ok (x:Tm) (hx:TmB x):CF 67 [.agg x.cells] [] fun r ob=>r= .bool (!x.valid)/\ob=[]:=by
 have hv:=valid_ok x hx.1 (by have:=hx.2.2; omega)
 generalize x.valid=b at hv ⊢
 obtain⟨k,n,s,a⟩:=x
 refine CallL.tree hdraw fp67 mCtr_ok (NL1_eq k n s (Tm.cellsL a) b) ?_
 exact⟨hv,rfl,rfl⟩
theorem l2_ok (x:Tm) (hx:TmB x):CF 68 [.agg x.cells] [] fun r ob=>r= .bool (!x.value)/\ob=[]:=by
 have hv:=value_ok x hx.1 (by have:=hx.2.2; omega)
 have e:(x.all Tm.plain && x.valid)=x.value:=rfl
 rw[e] at hv
 generalize x.value=b at hv ⊢
 obtain⟨k,n,s,a⟩:=x
 refine CallL.tree hdraw fp68 mCtr_ok (NL2_eq k n s (Tm.cellsL a) b) ?_
 exact⟨hv,rfl,rfl⟩
theorem any_not (g:Tm->Bool) (l:List Tm):(l.any fun x=> !g x)= !l.all g:=by
 induction l with
 | nil=>rfl
 | cons x r ih=>simp only[List.any_cons,List.all_cons,ih,Bool.not_and]
structure BdB (b:List Bd):Prop where
 len:b.length<=100000
 wf: ∀ x∈b,x.wf 281474976710656
 tm: ∀ x∈b,TmB x.v
theorem lists_ok (ps vs:List Tm) (b:List Bd) (hp: ∀ x∈ps,TmB x) (hv: ∀ x∈vs,TmB x) (hpl:ps.length<=1000000) (hvl:vs.length<=1000000) (hc:Tm.cntL ps<=100000) (hb:BdB b):FK 35 [.slice (Tm.cellsL ps) [],.slice (Tm.cellsL vs) [],.slice (bdL b) []] (bndD (lstB ps vs b)):=by
 have hbl:=hb.len
 have h1:=mva_ok b (by omega) hb.wf fun x hx=>by have:=(hb.tm x hx).2.2; omega
 have h2:=cf0_ok 67 (fun x=> !x.valid) ps (by omega) fun x hx=>l1_ok x (hp x hx)
 have h3:=cf0_ok 68 (fun x=> !x.value) vs (by omega) fun x hx=>l2_ok x (hv x hx)
 rw[any_not] at h2 h3
 unfold lstB
 by_cases hvb:validB b=true
 ·have hs:=(validB_iff.1 hvb).1
  have hS:StB (Tm.cntL ps+0) b []:=⟨hs,by omega,by simp only[List.length_nil]; omega,fun x hx=>hb.tm x hx,fun y hy=>by cases hy⟩
  have hO:=outers_of ps vs b [] (eq_ok ps vs hpl hp hv (fun x hx v c os hw hc=>out_ok x v c os (hp x hx) hw hc) b [] hS)
  have hO2:CF 70 [.ptr 0 0,.slice (Tm.cellsL ps) [],.slice (Tm.cellsL vs) []] (oN (bdL b)) (ExR (oA (Tm.prsL ps vs) b [])):=CallL.nilO (by decide) rfl rfl rfl hO
  have hst:=fun q hq=>oA_stBL (N:=0) (r:=q) hp hv hS hq
  rw[hvb] at h1 ⊢
  generalize ps.all Tm.valid=cp at h2 ⊢
  generalize vs.all Tm.value=cv at h3 ⊢
  cases cp
  ·refine FnOK.tree hdraw fp35 (clC_ok extQ_ok) (NLi_eq (Tm.cellsL ps) (Tm.cellsL vs) (bdL b) true true false false false [] [] []) ?_
   exact⟨h1,h2,rfl⟩
  ·cases cv
   ·refine FnOK.tree hdraw fp35 (clC_ok extQ_ok) (NLi_eq (Tm.cellsL ps) (Tm.cellsL vs) (bdL b) true false true false false [] [] []) ?_
    exact⟨h1,h2,h3,rfl⟩
   ·simp only[Bool.and_self,if_true]
    cases hq:oA (Tm.prsL ps vs) b [] with
    | none =>
     rw[hq] at hO2
     refine FnOK.tree hdraw fp35 (clC_ok extQ_ok) (NLi_eq (Tm.cellsL ps) (Tm.cellsL vs) (bdL b) true false false false false [] [] []) ?_
     exact⟨h1,h2,h3,hO2,rfl⟩
    | some q =>
     have hq2:=hst q hq
     rw[hq] at hO2
     have hC:=cls_ok q.1 q.2 hq2
     have hqb:=hq2.len
     have hR:=nres_ok q.1 (prD q.2) (by omega) fun x hx=>(hq2.wf x hx).2.1
     simp only
     generalize q.2.all (clsB q.1)=cc at hC ⊢
     refine FnOK.tree hdraw fp35 (clC_ok extQ_ok) (NLi_eq (Tm.cellsL ps) (Tm.cellsL vs) (bdL b) true false false true cc (bdL q.1) (prD q.2) (bdL q.1)) ?_
     cases cc
     ·exact⟨h1,h2,h3,hO2,hC,rfl⟩
     ·exact⟨h1,h2,h3,hO2,hC,hR,rfl⟩
 ·have hvb:=Bool.eq_false_iff.2 hvb
  rw[hvb] at h1 ⊢
  refine FnOK.tree hdraw fp35 (clC_ok extQ_ok) (NLi_eq (Tm.cellsL ps) (Tm.cellsL vs) (bdL b) false false false false false [] [] []) ?_
  exact⟨h1,rfl⟩
theorem match_ok (p v:Tm) (b:List Bd) (hp:TmB p) (hv:TmB v) (hc:p.cnt<=99999) (hb:BdB b):FK 12 [.agg p.cells,.agg v.cells,.slice (bdL b) []] (bndD (lstB [p] [v] b)):=by
 have h:=lists_ok [p] [v] b (fun x hx=>by rw[List.mem_singleton] at hx; subst hx; exact hp) (fun x hx=>by rw[List.mem_singleton] at hx; subst hx; exact hv) (by simp) (by simp) (by simp only[Tm.cntL]; omega) hb
 cases hq:lstB [p] [v] b with
 | some c =>
  rw[hq] at h
  obtain⟨k,n,s,a⟩:=p
  obtain⟨kv,nv,sv,av⟩:=v
  refine FnOK.tree hdraw fp12 mCtr_ok (NMa_eq k n s (Tm.cellsL a) kv nv sv (Tm.cellsL av) (bdL b) (bdL c) true) ?_
  exact⟨h,rfl⟩
 | none =>
  rw[hq] at h
  obtain⟨k,n,s,a⟩:=p
  obtain⟨kv,nv,sv,av⟩:=v
  refine FnOK.tree hdraw fp12 mCtr_ok (NMa_eq k n s (Tm.cellsL a) kv nv sv (Tm.cellsL av) (bdL b) [] false) ?_
  exact⟨h,rfl⟩
abbrev atD (n:LU) (l:List Tm):D:= .agg [.str n,.slice (Tm.cellsL l) []]
end Go.Proofs.YtobgkdlghljdlaaGreatDoor
/- MatchOrder: trees. -/
namespace Go.Proofs.YtobgkdlghljdlaaGreatDoor
open Go.Sx
abbrev obAt (ps:LU) (a:LD) (qs:LU) (c:LD):Obs:=[(0,.cells [.str ps,.slice a []]),(1,.cells [.str qs,.slice c []])]
abbrev tmAt (es:LD) (turn:Int):List (Nat × D):=[(2,.slice es []),(3,.int .i64 turn),(4,.ptr 0 0),(5,.ptr 1 0)]
abbrev tmAt3 (es:LD) (k:Int):List (Nat × D):=[(2,.slice es []),(4,.ptr 0 0),(5,.ptr 1 0),(9,.int .i64 k)]
abbrev tmAt6 (es:LD):List (Nat × D):=[(2,.slice es []),(4,.ptr 0 0),(5,.ptr 1 0),(10,.ptr 2 0),(11,.ptr 3 0)]
abbrev obAt6 (ps:LU) (a:LD) (qs:LU) (c r1 r2:LD):Obs:=obAt ps a qs c++[(2,.cells [.str ps,.vec 4]),(3,.cells [.str qs,.vec 5]),(4,.arr true 4 35 r1),(5,.arr true 4 35 r2)]
theorem LSb_eq (es cs:LD):goT Tryz.prog (mCtr []) 0 (finF true 0 rs11) 2000 [Fr.sc sc11] { tm:=envOf 0 [dL es [],dL cs []],ob:=[] }=(brT (!decide ((↑(List.length es):Int)=(↑(List.length cs):Int))) (Rt (dB false) []) (Jm (cut sc11 0) { tm:=[(0,dL es []),(1,dL cs []),(5,dI (0:Int))],ob:=[] }):Tr):=by kernel_rfl
def hdSb (es cs:LD) (i:Int):St:=⟨[(0,.slice es []),(1,.slice cs []),(5,.int .i64 i)],[]⟩
theorem LSb2_eq (es cs:LD) (i:Nat) (m:LU) (k n:Int) (s:LU) (a:LD) (m':LU) (k' n':Int) (s':LU) (a':LD) (b:Bool):goT Tryz.prog (mCtr [(25,dB b)] [(19,bC m k n s a),(23,bC m' k' n' s' a')]) 0 (finF true 0 rs11) 2000 (cut sc11 0) (hdSb es cs (↑i:Int))=(brT (decide ((↑i:Int)<(↑(List.length es):Int))) (Ow ((0:Int)<=(↑i:Int)/\es[Int.toNat (↑i:Int)]? = some (bC m k n s a)) (Ow ((0:Int)<=(↑i:Int)/\cs[Int.toNat (↑i:Int)]? = some (bC m' k' n' s' a')) (Ow (FK 36 [dA (bC m k n s a),dA (bC m' k' n' s' a')] (dB b)) (brT (!b) (Rt (dB false) []) (Ow ((-9223372036854775808:Int)<=(↑i:Int)+(1:Int)/\(↑i:Int)+(1:Int)<=(9223372036854775807:Int)) (Jm (cut sc11 0) { tm:=[(0,dL es []),(1,dL cs []),(5,dI ((↑i:Int)+(1:Int)))],ob:=[] })))))) (Rt (dB true) []):Tr):=by kernel_rfl
theorem LSb0_eq (m:LU) (k n:Int) (s:LU) (a:LD) (m':LU) (k' n':Int) (s':LU) (a':LD) (b:Bool):goT Tryz.prog (mCtr [(15,dB b)]) 0 (finF true 0 rs36) 2000 [Fr.sc sc36] { tm:=envOf 0 [dA (bC m k n s a),dA (bC m' k' n' s' a')],ob:=[] }=(brT (decide (m=m')) (Ow (FK 24 [dA (tC k n s a),dA (tC k' n' s' a')] (dB b)) (Rt (dB b) [])) (Rt (dB false) []):Tr):=by kernel_rfl
end Go.Proofs.YtobgkdlghljdlaaGreatDoor
