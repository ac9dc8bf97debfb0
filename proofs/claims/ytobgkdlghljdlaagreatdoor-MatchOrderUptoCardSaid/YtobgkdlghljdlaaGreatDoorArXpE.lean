/- Own work: a layer over the kit: plain data,a walk over it,its soundness. -/
import Derived.Test.YtobgkdlghljdlaaGreatDoorArXpP
import Derived.Test.YtobgkdlghljdlaaGreatDoorSx11
import Derived.Test.YtobgkdlghljdlaaGreatDoorMoC
set_option linter.unusedSectionVars false
set_option linter.unusedVariables false
set_option linter.unusedSimpArgs false
set_option linter.deprecated false
set_option maxRecDepth 100000
/- arith.Expand. -/
namespace Go.Proofs.YtobgkdlghljdlaaGreatDoor
open Go.Sx
def dfrB:SC->SC
 | .seq (.spec (.dfr _ _)) b=>b
 | .seq _ b=>dfrB b
 | c=>c
def clE:D:= .func (.func 47) [] [.ptr 1 0,.ptr 2 0]
def tDE:FrameMode->Obs->Option (FrameMode × Obs):=fun u ob=>match u with
 | .returning=>some (.returning,ob)
 | .panicking [⟨v,false,false⟩]=>some (.panicking [⟨v,true,false⟩],[(0,.cells [.nils]),(1,.cells [.int .i64 5])])
 | _=>none
theorem Zn7 (k n:Int) (s:LU) (a:LD) (v g:Bool):let A:=[dU (0:Int),dI (0:Int),dS [],dL [] []];let B:=(Rt (D.tuple [D.nils,dI (2:Int)]) []);let C:=tC k n s a;let E:=AOp.load true 4;let F:=AOp.load false 1;let G:=AOp.len false;let H:=AOp.iaddr 4;let I:=(dI (0:Int));goD (dCtr [(7,dB v),(11,dB g)]) 0 Z3n Z0S { tm:=Q0 0 [dA C],ob:=[] }=(Ow (FK 15 [dA C] (dB v)) (brT (!v) B (Ow (FK 21 [dA C] (dB g)) (brT (!g) B (Jm [Fr.sc (SC.seq (SC.spec (Sp.dfr [] (xt 14))) (SC.seq (SC.spec (Sp.frg [1,2,3])) (SC.seq (SC.seq (SC.spec (Sp.pan [so 15 E [xt 1],SOp.cd (some 16) none (xc (dF 48 [] [])) [xt 15],so 17 G [xt 16],so 18 AOp.mv [xc I]])) (SC.block 0 (SC.loop [2,3,16,17,18] (SC.seq (SC.reg [so 19 (AOp.bin BinOp.lss) [xt 18,xt 17]]) (SC.seq (SC.cond (xt 19) SC.skip (SC.exit 0)) (SC.seq (SC.block 1 (SC.seq (SC.reg [so 20 H [xt 16,xt 18],so 21 E [xt 20],so 5 (AOp.alloc [dU (0:Int),dI (0:Int),dS [],D.nils]) [],SOp.st none (SK.c 4) (xt 5) (xt 21)]) (SC.drw [0,0,2,1,0,31,63,127,63] [so 22 F [xt 2],so 23 E [xt 5],so 24 (AOp.call 49) [xt 23],so 25 G [xt 22],so 26 (AOp.bslice true 4 1 35 A [(0,4)]) [xc (dA A)],SOp.app 27 none false 4 35 (xt 22) (xt 26),so 28 H [xt 27,xt 25],SOp.st none (SK.c 4) (xt 28) (xt 24),SOp.st none (SK.c 1) (xt 2) (xt 27)]))) (SC.reg [so 29 (AOp.bin BinOp.add) [xt 18,xc (dI (1:Int))],so 18 AOp.mv [xt 29]]))))))) (SC.seq (SC.spec (Sp.frg [2,3])) (SC.seq (SC.reg [so 30 F [xt 2],SOp.st none (SK.c 1) (xt 2) (xt 30),SOp.st none (SK.c 1) (xt 3) (xc I)]) SC.ret)))))] { tm:=[(14,dF 47 [] [dP 1 0,dP 2 0]),(1,dP 0 0),(2,dP 1 0),(3,dP 2 0)],ob:=[(0,oC C),(1,oC [D.nils]),(2,oC [dI (0:Int)])] })))):Tr):=by intro A B C E F G H I;kernel_rfl
def obE (k n:Int) (s:LU) (a:LD):Obs:=[(0,.cells [.int .u8 k,.int .i64 n,.str s,.slice a []]),(1,.cells [.nils]),(2,.cells [.int .i64 0])]
theorem Zn6 (k n:Int) (s:LU) (a:LD):goT Tryz.prog (ctr libT) 3 (Z4t Tryz.prog tDE 0 3 Z3n clE) 2000 [Fr.sc (dfrB Z0S)] { tm:=[(14,dF 47 [] [dP 1 0,dP 2 0]),(1,dP 0 0),(2,dP 1 0),(3,dP 2 0)],ob:=obE k n s a }=(Jm (frg Z0S 2) { tm:=[(1,dP 0 0),(2,dP 1 0),(3,dP 2 0)],ob:=[(0,oC (tC k n s a)),(1,oC [D.nils]),(2,oC [dI (0:Int)])] }:Tr):=by kernel_rfl
theorem Zdq (k n:Int) (s:LU) (a:LD) (b:Bool) (es:LD):let A:=tC k n s a;let B:=(0,oC [D.nils]);let C:=[dI (0:Int)];goT Tryz.prog (ctr libT (asmJ b (dL es []) id)) 3 (Z4t Tryz.prog tDE 0 3 Z3n clE) 2000 (frg Z0S 2) { tm:=[(1,dP 0 0),(2,dP 1 0),(3,dP 2 0)],ob:=obE k n s a }=(brT b (Ow (CF 48 [dA A] [] fun r0 ob0=>r0=dL es []/\ob0=[]) (Jm (cut Z0S 0) { tm:=[(2,dP 1 0),(3,dP 2 0),(16,dL es []),(17,dI (↑(List.length es):Int)),(18,dI (0:Int))],ob:=[(0,oC A),(1,oC [D.nils]),(2,oC C)] })) (Ow (CF 48 [dA A] [] fun r0 ob0=>r0=D.pan ZF/\ob0=[]) (Ow (Sx.CallD Tryz.prog (FrameMode.panicking [{ v:=ZF,recovered:=false }]) (dF 47 [] [dP 0 0,dP 1 0]) [B,(1,oC C)] fun u0 ob0=>u0=FrameMode.panicking [{ v:=ZF,recovered:=true }]/\ob0=[B,(1,oC [dI (5:Int)])]) (Rt (D.tuple [D.nils,dI (5:Int)]) []))):Tr):=by intro A B C;kernel_rfl
def obE1 (k n:Int) (s:LU) (a row:LD):Obs:=[(0,.cells [.int .u8 k,.int .i64 n,.str s,.slice a []]),(1,.cells [.vec 3]),(2,.cells [.int .i64 0]),(3,.arr false 4 35 row)]
def hdE (es:LD) (m i:Int) (ob:Obs):St:=⟨[(2,.ptr 1 0),(3,.ptr 2 0),(16,.slice es []),(17,.int .i64 m),(18,.int .i64 i)],ob⟩
theorem Zax (k n:Int) (s:LU) (a es:LD) (m:Int) (i:Nat) (kx nx:Int) (sx:LU) (ax:LD):let A:=tC kx nx sx ax;let B:=(0,oC (tC k n s a));let C:=(2,oC [dI (0:Int)]);let E:=((↑i:Int)+(1:Int));let F:=cut Z0S 0;goT Tryz.prog (ctr (asmP (dA A)) Qg (eOne A)) 3 (Z4t Tryz.prog tDE 0 3 Z3n clE) 2000 F (hdE es m (↑i:Int) (obE k n s a))=(brT (decide ((↑i:Int)<m)) (Ow ((0:Int)<=(↑i:Int)/\es[Int.toNat (↑i:Int)]? = some A) (Ow (FK 49 [dA A] (dA A)) (Ow (Zc 4 [[dU (0:Int),dI (0:Int),dS [],dL [] []]]/\1<=1073741824) (Ow ((0:Int)<=(0:Int)/\(0:Int)<(↑(1:Nat):Int)) (Ow (0<1) (I8 E (Jm F { tm:=[(2,dP 1 0),(3,dP 2 0),(16,dL es []),(17,dI m),(18,dI E)],ob:=[B,(1,oC [dV 3]),C,(3,oR false 4 35 [A])] }))))))) (Jm (frg Z0S 3) { tm:=[(2,dP 1 0),(3,dP 2 0)],ob:=[B,(1,oC [D.nils]),C] }):Tr):=by intro A B C E F;kernel_rfl
theorem Zaw (k n:Int) (s:LU) (a row es:LD) (m:Int) (i:Nat) (kx nx:Int) (sx:LU) (ax:LD):let A:=[[dU (0:Int),dI (0:Int),dS [],dL [] []]];let B:=tC kx nx sx ax;let C:=(↑(List.length row):Int);let E:=(0,oC (tC k n s a));let F:=(2,oC [dI (0:Int)]);let G:=((↑i:Int)+(1:Int));let H:=cut Z0S 0;let I:=(1,oC [dV 3]);goT Tryz.prog (ctr (asmP (dA B)) Qg (eOne B)) 3 (Z4t Tryz.prog tDE 0 3 Z3n clE) 2000 H (hdE es m (↑i:Int) (obE1 k n s a row))=(brT (decide ((↑i:Int)<m)) (Ow ((0:Int)<=(↑i:Int)/\es[Int.toNat (↑i:Int)]? = some B) (Ow (FK 49 [dA B] (dA B)) (Ow (Zc 4 A/\List.length row+1<=1073741824) (Ow ((0:Int)<=C/\C<(↑(List.length (row++A)):Int)) (Ow (Int.toNat C<List.length (row++A)) (I8 G (Jm H { tm:=[(2,dP 1 0),(3,dP 2 0),(16,dL es []),(17,dI m),(18,dI G)],ob:=[E,I,F,(3,oR false 4 35 (List.set (row++A) (Int.toNat C) B))] }))))))) (Jm (frg Z0S 3) { tm:=[(2,dP 1 0),(3,dP 2 0)],ob:=[E,I,F,(3,oR false 4 35 row)] }):Tr):=by intro A B C E F G H I;kernel_rfl
theorem ZhM (k n:Int) (s:LU) (a:LD):let A:=[(0,oC [D.nils]),(1,oC [dI (0:Int)])];goT Tryz.prog (ctr libT) 3 (Z4t Tryz.prog tDE 0 3 Z3n clE) 2000 (frg Z0S 3) { tm:=[(2,dP 1 0),(3,dP 2 0)],ob:=obE k n s a }=(Ow (Sx.CallD Tryz.prog FrameMode.returning (dF 47 [] [dP 0 0,dP 1 0]) A fun u0 ob0=>u0=FrameMode.returning/\ob0=A) (Rt (D.tuple [D.nils,dI (0:Int)]) []):Tr):=by intro A;kernel_rfl
theorem ZhL (k n:Int) (s:LU) (a row:LD):let A:=[(0,oC [dV 2]),(1,oC [dI (0:Int)]),(2,oR false 4 35 row)];goT Tryz.prog (ctr libT) 3 (Z4t Tryz.prog tDE 0 3 Z3n clE) 2000 (frg Z0S 3) { tm:=[(2,dP 1 0),(3,dP 2 0)],ob:=obE1 k n s a row }=(Ow (Sx.CallD Tryz.prog FrameMode.returning (dF 47 [] [dP 0 0,dP 1 0]) A fun u0 ob0=>u0=FrameMode.returning/\ob0=A) (Rt (D.tuple [dV 0,dI (0:Int)]) [(0,oR false 4 35 row)]):Tr):=by intro A;kernel_rfl
def rcvO:SC->List SOp
 | .seq (.spec (.rcv _ ops)) _=>ops
 | _=>[]
def rcvB:SC->SC
 | .seq (.spec (.rcv _ _)) b=>b
 | c=>c
def stR (u:FrameMode) (ob:Obs):St:=⟨(5,.raw (recM u).1)::Z6 5 (Q0 0 [.ptr 0 0,.ptr 1 0]),ob⟩
def obR0:Obs:=[(0,.cells [.nils]),(1,.cells [.int .i64 0])]
def obR1 (row:LD):Obs:=[(0,.cells [.vec 2]),(1,.cells [.int .i64 0]),(2,.arr false 4 35 row)]
theorem ZhS (z:Nat):goRc Tryz.prog (ctr libT) 2 2000 (rcvO Z3l) (rcvB Z3l) (stR FrameMode.returning obR0)=(Rt (D.tuple []) [(0,oC [D.nils]),(1,oC [dI (0:Int)])]:Tr):=by kernel_rfl
theorem ZhR (row:LD):goRc Tryz.prog (ctr libT) 3 2000 (rcvO Z3l) (rcvB Z3l) (stR FrameMode.returning (obR1 row))=(Rt (D.tuple []) [(0,oC [dV 2]),(1,oC [dI (0:Int)]),(2,oR false 4 35 row)]:Tr):=by kernel_rfl
theorem Zna (z:Nat):goRc Tryz.prog (ctr libT) 2 2000 (rcvO Z3l) (rcvB Z3l) (stR (FrameMode.panicking [{ v:=ZF,recovered:=false }]) obR0)=(Rt (D.tuple []) [(0,oC [D.nils]),(1,oC [dI (5:Int)])]:Tr):=by kernel_rfl
theorem fnD:FnC Tryz.prog 47 10 (.seq (.spec (.rcv 5 (rcvO Z3l))) (rcvB Z3l)) []:=ZnV.1
theorem Zgr:Sx.CallD Tryz.prog .returning (.func (.func 47) [] [.ptr 0 0,.ptr 1 0]) obR0 fun u o=>u= .returning/\o=obR0 :=
 CallD.tree Z4 fnD (first:=[]) (Z3 Z2 Z0) (ZhS 0) ⟨rfl,rfl⟩
theorem Zgq (row:LD):Sx.CallD Tryz.prog .returning (.func (.func 47) [] [.ptr 0 0,.ptr 1 0]) (obR1 row) fun u o=>u= .returning/\o=obR1 row :=
 CallD.tree Z4 fnD (first:=[]) (Z3 Z2 Z0) (ZhR row) ⟨rfl,rfl⟩
theorem ZlW:Sx.CallD Tryz.prog (.panicking [⟨ZF,false,false⟩]) (.func (.func 47) [] [.ptr 0 0,.ptr 1 0]) obR0 fun u o=>u= .panicking [⟨ZF,true,false⟩]/\o=[(0,.cells [.nils]),(1,.cells [.int .i64 5])] :=
 CallD.tree Z4 fnD (first:=[]) (Z3 Z2 Z0) (Zna 0) ⟨rfl,rfl⟩
abbrev QE (R:D->Obs->Prop):Exit->St->Prop:=DefQ Tryz.prog 0 3 Z3n clE (RE false R)
abbrev RV1 (l:List Tm):D->Obs->Prop:=fun r o=>r= .tuple [.vec 0,.int .i64 0]/\o=[(0,.arr false 4 35 (Tm.cellsL l))]
theorem Zlt (k:Nat) (n:Int) (s:LU) (a:LD) (l:List Tm) (hl:l.length<=1000) (H: ∀ y∈l,CopP y): ∀ (m i:Nat),l.length-i=m->i<=l.length →
  At Tryz.prog 3 (cut Z0S 0) (hdE (Tm.cellsL l) l.length i (obE1 k n s a (Tm.cellsL (l.take i)))) (QE (RV1 l)):=by
 intro m
 induction m with
 | zero =>
  intro i hm hi
  refine At.treeD (Z3 (Zl _) Z0) (Zaw k n s a (Tm.cellsL (l.take i)) (Tm.cellsL l) l.length i 0 0 [] []) ?_
  rw[List.take_of_length_le (show l.length<=i by omega)]
  simp only[SS]
  refine⟨fun h=>by omega,fun _=> ?_⟩
  refine At.treeD (Z3 Z2 Z0) (ZhL k n s a (Tm.cellsL l)) ?_
  exact⟨Zgq _,rfl,rfl⟩
 | succ m ih =>
  intro i hm hi
  have h1:i<l.length:=by omega
  have hx:=Zg h1
  have hC:=H _ (List.getElem_mem h1)
  have hI:=ih (i+1) (by omega) (by omega)
  have ht:Tm.cellsL (l.take (i+1))=Tm.cellsL (l.take i)++[l[i].cells]:=by
   rw[List.take_add_one,List.getElem?_eq_getElem h1,ZH]; rfl
  have hlen:(Tm.cellsL (l.take i)).length=i:=by rw[Z1,List.length_take]; omega
  have hset: ∀ c:List D,(Tm.cellsL (l.take i)++[[dU 0,dI 0,dS [],dL [] []]]).set i c=Tm.cellsL (l.take i)++[c]:=fun c=>by
   have:=Z63 (Tm.cellsL (l.take i)) [dU 0,dI 0,dS [],dL [] []] c
   rwa [hlen] at this
  rw[ht] at hI
  unfold CopP at hC
  generalize l[i]=x at hx hC hI
  obtain⟨kx,nx,sx,ax⟩:=x
  refine At.treeD (Z3 (Zl _) Z0) (Zaw k n s a (Tm.cellsL (l.take i)) (Tm.cellsL l) l.length i kx nx sx (Tm.cellsL ax)) ?_
  simp only[SS,hlen,List.length_append,List.length_cons,List.length_nil,hset]
  exact⟨fun _=>⟨⟨by omega,hx⟩,hC,⟨by simp[Zc],by omega⟩,by omega,by omega,by omega,hI⟩,fun h=>by omega⟩
theorem Zgb (k:Nat) (n:Int) (s:LU) (a:LD) (l:List Tm) (hl:l.length<=1000) (H: ∀ y∈l,CopP y) (hne:l≠[]) :
  At Tryz.prog 3 (cut Z0S 0) (hdE (Tm.cellsL l) l.length 0 (obE k n s a)) (QE (RV1 l)):=by
 match l,hne,H,hl with
 | x::r,_,H,hl =>
  have hC:=H x (List.mem_cons_self ..)
  have hI:=Zlt k n s a (x::r) hl H _ 1 rfl (by simp)
  unfold CopP at hC
  obtain⟨kx,nx,sx,ax⟩:=x
  refine At.treeD (Z3 (Zl _) Z0) (Zax k n s a (Tm.cellsL (.mk kx nx sx ax::r)) (.mk kx nx sx ax::r:List Tm).length 0 kx nx sx (Tm.cellsL ax)) ?_
  have hp:(0:Int)<((Tm.mk kx nx sx ax::r:List Tm).length:Int):=by simp only[List.length_cons]; omega
  have h0:(Tm.cellsL (.mk kx nx sx ax::r))[0]? = some [.int .u8 kx,.int .i64 nx,.str sx,.slice (Tm.cellsL ax) []]:=rfl
  simp only[SS]
  exact⟨fun _=>⟨⟨by omega,h0⟩,hC,⟨by simp[Zc],by omega⟩,by decide,by decide,by omega,hI⟩,fun h=>by omega⟩
def xrL:XR->List Tm
 | .ok l=>l
 | _=>[]
def xrE:XR->Int
 | .ok _=>0
 | .many=>5
 | .arg=>2
def xrR:XR->D->Obs->Prop:=fun x=>match x with
 | .ok (y::r)=>RV1 (y::r)
 | x=>fun r o=>r= .tuple [.nils,.int .i64 (xrE x)]/\o=[]
theorem ZcZ: ∀ (x:Tm) {a b:Nat},a<=b->x.few a->x.few b
 | .mk k n s l,a,b,h,hx=>by
  simp only[Tm.few] at hx ⊢
  exact⟨Nat.le_trans hx.1 h,ZL.2 fun y hy=>ZcZ y h (ZL.1 hx.2 y hy)⟩
termination_by x=>SizeOf.sizeOf x
decreasing_by
 have:=List.sizeOf_lt_of_mem hy
 simp only[Tm.mk.sizeOf_spec]
 omega
theorem Z48: ∀ (v:Tm),v.all Tm.shape=true->v.few 1000
 | .mk k n s l,hs=>by
  have hs:=Zt.1 hs
  simp only[Tm.few]
  have IH: ∀ y∈l,y.few 1000:=fun y hy=>Z48 y (hs.2 y hy)
  refine⟨?_,ZL.2 IH⟩
  have h1:=hs.1
  simp only[Tm.shape,Q2] at h1
  (repeat' split at h1) <;> simp_all <;> omega
termination_by v=>SizeOf.sizeOf v
decreasing_by
 have:=List.sizeOf_lt_of_mem hy
 simp only[Tm.mk.sizeOf_spec]
 omega
theorem Zg8 (x:Tm) (hx:x.wf 281474976710656) (hd:x.depth<=1000000000):CF 22 [.agg x.cells] [] (xrR x.expd):=by
 have hv:=Z3f x hx hd
 have hg:=Z9e x hx
 have hfew:x.valid=true->x.few 1000:=fun h=>Z48 x (Z1Q.1 h).2
 have hsh:x.valid=true->x.all Tm.shape=true:=fun h=>(Z1Q.1 h).2
 unfold Tm.expd
 generalize hvv:x.valid=v at hv hfew hsh
 generalize hgg:x.all Tm.gr=g at hg
 obtain⟨k,n,s,a⟩:=x
 refine CallL.treeD Z4 ZnW (Zn Z0) (Zn7 k n s (Tm.cellsL a) v g) ?_
 rw[Zh,Qt,Zh,Qt]
 refine⟨hv,fun h=> ?_,fun h=>⟨hg,fun h'=> ?_,fun h'=> ?_⟩⟩
 ·have:v=false:=by simpa using h
  subst this
  exact⟨rfl,rfl⟩
 ·have:g=false:=by simpa using h'
  subst this
  simp only[Bool.and_false,Bool.false_eq_true,if_false]
  exact⟨rfl,rfl⟩
 ·have e1:v=true:=by simpa using h
  have e2:g=true:=by simpa using h'
  subst e1; subst e2
  simp only[Bool.and_self,if_true]
  refine KDef.at (k2:=3) 47 [] [.ptr 1 0,.ptr 2 0] rfl (by kernel_rfl) (Nat.le_of_ble_eq_true rfl) (Nat.zero_le _) (Nat.le_of_ble_eq_true rfl) ?_
  refine At.treeD (Z3 Z2 Z0) (Zn6 k n s (Tm.cellsL a)) ?_
  rw[Z9]
  cases hxp:(Tm.mk k n s a).xp with
  | none =>
   have hC:=Z9n _ (hfew rfl) (hsh rfl) hgg hxp
   refine At.treeD (Z3 Z2 (Z0j _ _ _)) (Zdq k n s (Tm.cellsL a) false []) ?_
   rw[Qt]
   refine⟨fun h=>(Bool.noConfusion h),fun _=>⟨hC,ZlW,rfl,rfl⟩⟩
  | some l =>
   have hC:=FnOK.callS ZjS (Z5x _ l (hfew rfl) (hsh rfl) hgg hxp)
   have hl:=Z5Q hxp
   have H: ∀ y∈l,CopP y:=fun y hy=>by
    have:=Z0m _ l y (hsh rfl) hgg hxp hy
    exact Z9G y (ZcZ y (by decide) (Z5T y this.2.1 this.1).1)
   refine At.treeD (Z3 Z2 (Z0j _ _ _)) (Zdq k n s (Tm.cellsL a) true (Tm.cellsL l)) ?_
   rw[Qt]
   refine⟨fun _=>⟨hC, ?_⟩,fun h=>(Bool.noConfusion h)⟩
   cases l with
   | nil =>
    refine At.treeD (Z3 (Zl _) Z0) (Zax k n s (Tm.cellsL a) [] 0 0 0 0 [] []) ?_
    simp only[SS]
    refine⟨fun h=>by omega,fun _=> ?_⟩
    refine At.treeD (Z3 Z2 Z0) (ZhM k n s (Tm.cellsL a)) ?_
    exact⟨Zgr,rfl,rfl⟩
   | cons y r =>
    have hA:=Zgb k n s (Tm.cellsL a) (y::r) hl H (by simp)
    rw[Z9,Z1]
    exact hA
theorem ZjR:ZA Tryz.prog 22=true:=by kernel_rfl
theorem Z9o (x:Tm) (hx:x.wf 281474976710656) (hd:x.depth<=1000000000):FK 22 [.agg x.cells] (.tuple [.slice (Tm.cellsL (xrL x.expd)) [],.int .i64 (xrE x.expd)]):=by
 have hC:=Zg8 x hx hd
 generalize x.expd=e at hC
 have low: ∀ e:XR,xrL e=[]->CF 22 [.agg x.cells] [] (fun r o=>r= .tuple [.nils,.int .i64 (xrE e)]/\o=[])->FK 22 [.agg x.cells] (.tuple [.slice (Tm.cellsL (xrL e)) [],.int .i64 (xrE e)]):=fun e he hC=>by
  rw[he]
  exact FnOK.of_call ZjR (hC.mono fun r ob ⟨h1,h2⟩=>by subst h1; subst h2; exact .inr ⟨rfl,rfl⟩)
 match e,hC with
 | .many,hC=>exact low .many rfl hC
 | .arg,hC=>exact low .arg rfl hC
 | .ok [],hC=>exact low (.ok []) rfl hC
 | .ok (y::r),hC =>
  exact FnOK.of_call ZjR (hC.mono fun r0 ob ⟨h1,h2⟩=>by subst h1; subst h2; exact .inr ⟨rfl,rfl⟩)
end Go.Proofs.YtobgkdlghljdlaaGreatDoor
/- match.lists,Match,MatchAtom at every argument. -/
namespace Go.Proofs.YtobgkdlghljdlaaGreatDoor
open Go.Sx
def fstI (g:Tm->Bool):List Tm->Nat->Int
 | [],_=> -1
 | a::r,i=>if g a=true then i else fstI g r (i+1)
theorem Z6A (g:Tm->Bool): ∀ (l:List Tm) (i:Nat),0<=fstI g l i ↔ l.any g=true
 | [],i=>by simp[fstI]
 | a::r,i=>by
  rw[fstI,List.any_cons,Bool.or_eq_true,<- Z6A g r (i+1)]
  by_cases h:g a=true
  ·rw[if_pos h]
   exact⟨fun _=> .inl h,fun _=>by omega⟩
  ·rw[if_neg h]
   exact⟨.inr,fun h2=>h2.resolve_left h⟩
theorem Z6B (g:Tm->Bool) (l:List Tm) (i:Nat):decide (0<=fstI g l i)=l.any g:=by
 rw[Bool.eq_iff_iff,decide_eq_true_eq]
 exact Z6A g l i
theorem Zkp (f:FuncId) (g:Tm->Bool) (l:List Tm) (hl:l.length<=1000000000) (H: ∀ x∈l,CallL Tryz.prog (.func (.func f) [] []) [.agg x.cells] [] fun r ob=>r= .bool (g x)/\ob=[]): ∀ (m i:Nat),l.length-i=m->i<=l.length →
  At Tryz.prog 0 (cut Z2z 0) (hdIf (.func (.func f) [] []) (Tm.cellsL l) l.length i []) (FinQ false 0 Z4e fun r ob=>r= .int .i64 (fstI g (l.drop i) i)/\ob=[]):=by
 intro m
 induction m with
 | zero =>
  intro i hm hi
  refine At.tree Z5 (Z72 f (Tm.cellsL l) l.length i 0 0 [] [] true) ?_
  rw[List.drop_eq_nil_of_le (by omega)]
  simp only[SS]
  exact⟨fun h=>by omega,fun _=>by first | trivial | exact⟨rfl,rfl⟩⟩
 | succ m ih =>
  intro i hm hi
  have h1:i<l.length:=by omega
  have hx:=Zg h1
  have hC:=H _ (List.getElem_mem h1)
  have hI:=ih (i+1) (by omega) (by omega)
  rw[Za h1,fstI]
  generalize g l[i]=b at hC ⊢
  generalize l[i]=x at hx hC
  obtain⟨k,n,s,a⟩:=x
  refine At.tree Z5 (Z72 f (Tm.cellsL l) l.length i k n s (Tm.cellsL a) b) ?_
  simp only[SS]
  refine⟨fun _=>⟨⟨by omega,hx⟩,hC,fun h=> ?_,fun h=>⟨by omega, ?_⟩⟩,fun h=>by omega⟩
  ·rw[if_pos h]
  ·rw[if_neg (by rw[h]; decide)]; exact hI
theorem Zd5 (f:FuncId) (g:Tm->Bool) (l:List Tm) (hl:l.length<=1000000000) (H: ∀ x∈l,CallL Tryz.prog (.func (.func f) [] []) [.agg x.cells] [] fun r ob=>r= .bool (g x)/\ob=[]):CF 69 [.slice (Tm.cellsL l) [],.func (.func f) [] []] [] fun r ob=>r= .bool (l.any g)/\ob=[]:=by
 have h1:CF 103 [.slice (Tm.cellsL l) [],.func (.func f) [] []] [] fun r ob=>r= .int .i64 (fstI g l 0)/\ob=[]:=by
  refine CallL.tree Z4 Zg3 Z5 (Zhz f (Tm.cellsL l)) ?_
  rw[Z9,Z1]
  exact Zkp f g l hl H _ 0 rfl (Nat.zero_le _)
 rw[<- Z6B g l 0]
 generalize fstI g l 0=j at h1 ⊢
 refine CallL.tree Z4 fp69 Z5 (ZhB f (Tm.cellsL l) j) ?_
 exact⟨h1,rfl,rfl⟩
abbrev oX (p v:Tm):Obs:=[(0,.cells (p.cells++v.cells))]
theorem ZlX (p v x:Tm) (hx:x.wf 281474976710656) (hv:v.wf 281474976710656):CallL Tryz.prog fC [.agg x.cells] (oX p v) fun r ob=>r= .bool (x.eqb v)/\ob=oX p v:=by
 have he:=Z6H x v hx hv
 generalize x.eqb v=b at he ⊢
 obtain⟨k,n,s,a⟩:=p
 obtain⟨k',n',s',a'⟩:=v
 obtain⟨kv,nv,sv,av⟩:=x
 refine CallL.tree Z4 Zlg Z5 (Zmz k n s (Tm.cellsL a) k' n' s' (Tm.cellsL a') kv nv sv (Tm.cellsL av) b) ?_
 exact⟨by decide,he,rfl,rfl⟩
theorem Zko (p v:Tm) (hv:v.wf 281474976710656) (l:List Tm) (hl:l.length<=1000000000) (hw: ∀ x∈l,x.wf 281474976710656): ∀ (m i:Nat),l.length-i=m->i<=l.length →
  At Tryz.prog 1 (cut Z2z 0) (hdIf fC (Tm.cellsL l) l.length i (oX p v)) (FinQ false 1 Z4e fun r ob=>r= .int .i64 (fstI (fun x=>x.eqb v) (l.drop i) i)/\ob=oX p v):=by
 intro m
 induction m with
 | zero =>
  intro i hm hi
  obtain⟨k1,n1,s1,a1⟩:=p
  obtain⟨k2,n2,s2,a2⟩:=v
  refine At.tree Z5 (Z71 k1 n1 s1 (Tm.cellsL a1) k2 n2 s2 (Tm.cellsL a2) (Tm.cellsL l) l.length i 0 0 [] [] true) ?_
  rw[List.drop_eq_nil_of_le (by omega)]
  simp only[SS]
  exact⟨fun h=>by omega,fun _=>by first | trivial | exact⟨rfl,rfl⟩⟩
 | succ m ih =>
  intro i hm hi
  have h1:i<l.length:=by omega
  have hx:=Zg h1
  have hC:=ZlX p v l[i] (hw _ (List.getElem_mem h1)) hv
  have hI:=ih (i+1) (by omega) (by omega)
  rw[Za h1,fstI]
  generalize l[i].eqb v=b at hC ⊢
  generalize l[i]=x at hx hC
  obtain⟨k,n,s,a⟩:=x
  obtain⟨k1,n1,s1,a1⟩:=p
  obtain⟨k2,n2,s2,a2⟩:=v
  refine At.tree Z5 (Z71 k1 n1 s1 (Tm.cellsL a1) k2 n2 s2 (Tm.cellsL a2) (Tm.cellsL l) l.length i k n s (Tm.cellsL a) b) ?_
  simp only[SS]
  refine⟨fun _=>⟨⟨by omega,hx⟩,hC,fun h=> ?_,fun h=>⟨by omega, ?_⟩⟩,fun h=>by omega⟩
  ·rw[if_pos h]; exact⟨rfl,rfl⟩
  ·rw[if_neg (by rw[h]; decide)]; exact hI
theorem ZlU (p v:Tm) (hv:v.wf 281474976710656) (l:List Tm) (hl:l.length<=1000000000) (hw: ∀ x∈l,x.wf 281474976710656):CF 69 [.slice (Tm.cellsL l) [],fC] (oX p v) fun r ob=>r= .bool (l.any fun x=>x.eqb v)/\ob=oX p v:=by
 have h1:CF 103 [.slice (Tm.cellsL l) [],fC] (oX p v) fun r ob=>r= .int .i64 (fstI (fun x=>x.eqb v) l 0)/\ob=oX p v:=by
  have hA:=Zko p v hv l hl hw _ 0 rfl (Nat.zero_le _)
  rw[List.drop_zero] at hA
  generalize fstI (fun x=>x.eqb v) l 0=j at hA ⊢
  obtain⟨k1,n1,s1,a1⟩:=p
  obtain⟨k2,n2,s2,a2⟩:=v
  refine CallL.tree Z4 Zg3 Z5 (Zhy k1 n1 s1 (Tm.cellsL a1) k2 n2 s2 (Tm.cellsL a2) (Tm.cellsL l)) ?_
  rw[Z9,Z1]
  exact hA
 rw[<- Z6B (fun x=>x.eqb v) l 0]
 generalize fstI (fun x=>x.eqb v) l 0=j at h1 ⊢
 obtain⟨k1,n1,s1,a1⟩:=p
 obtain⟨k2,n2,s2,a2⟩:=v
 refine CallL.tree Z4 fp69 Z5 (ZhA k1 n1 s1 (Tm.cellsL a1) k2 n2 s2 (Tm.cellsL a2) (Tm.cellsL l) j) ?_
 exact⟨h1,rfl,rfl⟩
theorem Zfi {os:List (Tm × Tm)} {i:Nat} (h:i<os.length):(prD os)[i]? = some (os[i].1.cells++os[i].2.cells):=by
 simp[prD,h]
theorem Zfh (os:List (Tm × Tm)):(prD os).length=os.length:=List.length_map ..
theorem ZhY {x:Tm} (hx:x.wf 281474976710656):(xrL x.expd).length<=1000/\ ∀ v∈xrL x.expd,v.wf 281474976710656:=by
 unfold Tm.expd
 split
 ·rename_i h
  simp only[Bool.and_eq_true] at h
  cases hq:x.xp with
  | none=>exact⟨Nat.zero_le _,fun v hv=>by cases hv⟩
  | some l=>exact⟨Z5Q hq,fun v hv=>ZhZ x l v hx (Z1Q.1 h.1).2 h.2 hq hv⟩
 ·exact⟨Nat.zero_le _,fun v hv=>by cases hv⟩
theorem ZlQ (b:List Bd) (x:Tm × Tm):clsB b x=(decide (xrE (x.1.ap b).expd=0) && (xrL (x.1.ap b).expd).any fun y=>y.eqb x.2):=by
 unfold clsB
 cases (x.1.ap b).expd <;> simp[xrE,xrL]
theorem ZlR (b:List Bd) (os:List (Tm × Tm)) (hS:StB 0 b os): ∀ (m i:Nat),os.length-i=m->i<=os.length →
  At Tryz.prog 2 (cut sc71 0) (hdCl (bdL b) (prD os) os.length i) (FinQ false 2 rs71 fun r ob=>r= .bool ((os.drop i).all (clsB b))/\ob=sO b os):=by
 have hol:=hS.olen
 have hbl:=hS.len
 intro m
 induction m with
 | zero =>
  intro i hm hi
  refine At.tree (QN Za1) (Zan (bdL b) (prD os) os.length i 0 0 [] [] 0 0 [] [] 0 0 [] [] [] 0 true) ?_
  rw[List.drop_eq_nil_of_le (by omega)]
  simp only[SS]
  exact⟨fun h=>by omega,fun _=>by first | trivial | exact⟨rfl,rfl⟩⟩
 | succ m ih =>
  intro i hm hi
  have h1:i<os.length:=by omega
  have hx:=Zfi h1
  obtain⟨⟨w1,w2,w3⟩,v1,v2,v3⟩:=hS.owf _ (List.getElem_mem h1)
  have hT:=ZcO b (prD os) (by omega) hS.srt (fun x hx=>(hS.wf x hx).2.1) os[i].1 w2
  have aw:(os[i].1.ap b).wf 281474976710656:=Zm9 (fun x hx=>(hS.wf x hx).1) _ w1
  have ad:(os[i].1.ap b).depth<=os[i].1.depth+100000000:=Z6P (fun x hx=>(hS.wf x hx).2.2) _
  have hE:=Z9o (os[i].1.ap b) aw (by omega)
  obtain⟨xl,xw⟩:=ZhY aw
  have hF:=ZlU os[i].1 os[i].2 v1 (xrL (os[i].1.ap b).expd) (by omega) xw
  have hI:=ih (i+1) (by omega) (by omega)
  rw[Za h1,List.all_cons,ZlQ]
  unfold NaP at hT
  clear aw ad xl xw w1 w2 w3 v1 v2 v3
  generalize (xrL (os[i].1.ap b).expd).any (fun y=>y.eqb os[i].2)=c at hF ⊢
  generalize xrL (os[i].1.ap b).expd=l at hE hF
  generalize xrE (os[i].1.ap b).expd=e at hE ⊢
  generalize os[i].1.ap b=t at hT hE
  generalize os[i]=q at hx hT hF
  obtain⟨⟨k,n,s,a⟩,⟨k',n',s',a'⟩⟩:=q
  obtain⟨kt,nt,st,ta⟩:=t
  refine At.tree (QN Za1) (Zan (bdL b) (prD os) os.length i k n s (Tm.cellsL a) k' n' s' (Tm.cellsL a') kt nt st (Tm.cellsL ta) (Tm.cellsL l) e c) ?_
  simp only[SS]
  refine⟨fun _=>⟨⟨by omega,hx⟩,by omega,hT,hE,fun h=> ?_,fun h=>⟨hF,fun h2=> ?_,fun h2=>⟨by omega, ?_⟩⟩⟩,fun h=>by omega⟩
  ·rw[decide_eq_false h]; rfl
  ·rw[h2,Bool.and_false]; rfl
  ·rw[decide_eq_true h,h2]; exact hI
theorem ZlP (b:List Bd) (os:List (Tm × Tm)) (hS:StB 0 b os):CF 71 [.ptr 0 0] (sO b os) fun r ob=>r= .bool (os.all (clsB b))/\ob=sO b os:=by
 refine CallL.tree Z4 fp71 Z5 (Zmy (bdL b) (prD os)) ?_
 rw[Z9,Zfh]
 exact ZlR b os hS _ 0 rfl (Nat.zero_le _)
theorem ZnK (x:Tm) (hx:TmB x):CF 67 [.agg x.cells] [] fun r ob=>r= .bool (!x.valid)/\ob=[]:=by
 have hv:=Z3f x hx.1 (by have:=hx.2.2; omega)
 generalize x.valid=b at hv ⊢
 obtain⟨k,n,s,a⟩:=x
 refine CallL.tree Z4 fp67 Z5 (Zmx k n s (Tm.cellsL a) b) ?_
 exact⟨hv,rfl,rfl⟩
theorem ZnJ (x:Tm) (hx:TmB x):CF 68 [.agg x.cells] [] fun r ob=>r= .bool (!x.value)/\ob=[]:=by
 have hv:=Z5U x hx.1 (by have:=hx.2.2; omega)
 have e:(x.all Tm.plain && x.valid)=x.value:=rfl
 rw[e] at hv
 generalize x.value=b at hv ⊢
 obtain⟨k,n,s,a⟩:=x
 refine CallL.tree Z4 fp68 Z5 (Zmw k n s (Tm.cellsL a) b) ?_
 exact⟨hv,rfl,rfl⟩
theorem ZgE (g:Tm->Bool) (l:List Tm):(l.any fun x=> !g x)= !l.all g:=by
 induction l with
 | nil=>rfl
 | cons x r ih=>simp only[List.any_cons,List.all_cons,ih,Bool.not_and]
structure BdB (b:List Bd):Prop where
 len:b.length<=100000
 wf: ∀ x∈b,x.wf 281474976710656
 tm: ∀ x∈b,TmB x.v
theorem Z6u (ps vs:List Tm) (b:List Bd) (hp: ∀ x∈ps,TmB x) (hv: ∀ x∈vs,TmB x) (hpl:ps.length<=1000000) (hvl:vs.length<=1000000) (hc:Tm.cntL ps<=100000) (hb:BdB b):FK 35 [.slice (Tm.cellsL ps) [],.slice (Tm.cellsL vs) [],.slice (bdL b) []] (bndD (lstB ps vs b)):=by
 have hbl:=hb.len
 have h1:=ZcP b (by omega) hb.wf fun x hx=>by have:=(hb.tm x hx).2.2; omega
 have h2:=Zd5 67 (fun x=> !x.valid) ps (by omega) fun x hx=>ZnK x (hp x hx)
 have h3:=Zd5 68 (fun x=> !x.value) vs (by omega) fun x hx=>ZnJ x (hv x hx)
 rw[ZgE] at h2 h3
 unfold lstB
 by_cases hvb:Z08 b=true
 ·have hs:=(Z1d.1 hvb).1
  have hS:StB (Tm.cntL ps+0) b []:=⟨hs,by omega,by simp only[List.length_nil]; omega,fun x hx=>hb.tm x hx,fun y hy=>by cases hy⟩
  have hO:=Z4j ps vs b [] (Zlw ps vs hpl hp hv (fun x hx v c os hw hc=>ZcJ x v c os (hp x hx) hw hc) b [] hS)
  have hO2:CF 70 [.ptr 0 0,.slice (Tm.cellsL ps) [],.slice (Tm.cellsL vs) []] (oN (bdL b)) (ExR (oA (Tm.prsL ps vs) b [])):=CallL.nilO (by decide) rfl rfl rfl hO
  have hst:=fun q hq=>Zfq (N:=0) (r:=q) hp hv hS hq
  rw[hvb] at h1 ⊢
  generalize ps.all Tm.valid=cp at h2 ⊢
  generalize vs.all Tm.value=cv at h3 ⊢
  cases cp
  ·refine FnOK.tree Z4 fp35 (QN ZC) (Z4J (Tm.cellsL ps) (Tm.cellsL vs) (bdL b) true true false false false [] [] []) ?_
   exact⟨h1,h2,rfl⟩
  ·cases cv
   ·refine FnOK.tree Z4 fp35 (QN ZC) (Z4J (Tm.cellsL ps) (Tm.cellsL vs) (bdL b) true false true false false [] [] []) ?_
    exact⟨h1,h2,h3,rfl⟩
   ·simp only[Bool.and_self,if_true]
    cases hq:oA (Tm.prsL ps vs) b [] with
    | none =>
     rw[hq] at hO2
     refine FnOK.tree Z4 fp35 (QN ZC) (Z4J (Tm.cellsL ps) (Tm.cellsL vs) (bdL b) true false false false false [] [] []) ?_
     exact⟨h1,h2,h3,hO2,rfl⟩
    | some q =>
     have hq2:=hst q hq
     rw[hq] at hO2
     have hC:=ZlP q.1 q.2 hq2
     have hqb:=hq2.len
     have hR:=Zft q.1 (prD q.2) (by omega) fun x hx=>(hq2.wf x hx).2.1
     simp only
     generalize q.2.all (clsB q.1)=cc at hC ⊢
     refine FnOK.tree Z4 fp35 (QN ZC) (Z4J (Tm.cellsL ps) (Tm.cellsL vs) (bdL b) true false false true cc (bdL q.1) (prD q.2) (bdL q.1)) ?_
     cases cc
     ·exact⟨h1,h2,h3,hO2,hC,rfl⟩
     ·exact⟨h1,h2,h3,hO2,hC,hR,rfl⟩
 ·have hvb:=Bool.eq_false_iff.2 hvb
  rw[hvb] at h1 ⊢
  refine FnOK.tree Z4 fp35 (QN ZC) (Z4J (Tm.cellsL ps) (Tm.cellsL vs) (bdL b) false false false false false [] [] []) ?_
  exact⟨h1,rfl⟩
theorem Zbr (p v:Tm) (b:List Bd) (hp:TmB p) (hv:TmB v) (hc:p.cnt<=99999) (hb:BdB b):FK 12 [.agg p.cells,.agg v.cells,.slice (bdL b) []] (bndD (lstB [p] [v] b)):=by
 have h:=Z6u [p] [v] b (fun x hx=>by rw[List.mem_singleton] at hx; subst hx; exact hp) (fun x hx=>by rw[List.mem_singleton] at hx; subst hx; exact hv) (by simp) (by simp) (by simp only[Tm.cntL]; omega) hb
 cases hq:lstB [p] [v] b with
 | some c =>
  rw[hq] at h
  obtain⟨k,n,s,a⟩:=p
  obtain⟨kv,nv,sv,av⟩:=v
  refine FnOK.tree Z4 fp12 Z5 (Zdf k n s (Tm.cellsL a) kv nv sv (Tm.cellsL av) (bdL b) (bdL c) true) ?_
  exact⟨h,rfl⟩
 | none =>
  rw[hq] at h
  obtain⟨k,n,s,a⟩:=p
  obtain⟨kv,nv,sv,av⟩:=v
  refine FnOK.tree Z4 fp12 Z5 (Zdf k n s (Tm.cellsL a) kv nv sv (Tm.cellsL av) (bdL b) [] false) ?_
  exact⟨h,rfl⟩
abbrev atD (n:LU) (l:List Tm):D:= .agg [.str n,.slice (Tm.cellsL l) []]
def mtaB (m n:LU) (p v:List Tm) (b:List Bd):Option (List Bd):=if m=n then lstB p v b else none
theorem Z6p (m n:LU) (p v:List Tm) (b:List Bd) (hp: ∀ x∈p,TmB x) (hv: ∀ x∈v,TmB x) (hpl:p.length<=1000000) (hvl:v.length<=1000000) (hc:Tm.cntL p<=100000) (hb:BdB b):FK 10 [atD m p,atD n v,.slice (bdL b) []] (bndD (mtaB m n p v b)):=by
 have h:=Z6u p v b hp hv hpl hvl hc hb
 unfold mtaB
 by_cases e:m=n
 ·rw[if_pos e]
  cases hq:lstB p v b with
  | some c =>
   rw[hq] at h
   refine FnOK.tree Z4 fp10 Z5 (Zal m (Tm.cellsL p) n (Tm.cellsL v) (bdL b) (bdL c) true) ?_
   simp only[SS]
   exact⟨fun h2=>absurd e h2,fun _=>⟨h,rfl⟩⟩
  | none =>
   rw[hq] at h
   refine FnOK.tree Z4 fp10 Z5 (Zal m (Tm.cellsL p) n (Tm.cellsL v) (bdL b) [] false) ?_
   simp only[SS]
   exact⟨fun h2=>absurd e h2,fun _=>⟨h,rfl⟩⟩
 ·rw[if_neg e]
  refine FnOK.tree Z4 fp10 Z5 (Zal m (Tm.cellsL p) n (Tm.cellsL v) (bdL b) [] false) ?_
  simp only[SS]
  exact⟨fun _=>rfl,fun h2=>absurd h2 e⟩
end Go.Proofs.YtobgkdlghljdlaaGreatDoor
/- MatchOrder: trees. -/
namespace Go.Proofs.YtobgkdlghljdlaaGreatDoor
open Go.Sx
theorem ZoR (ps:LU) (a:LD) (qs:LU) (c es:LD) (turn:Int):gP (mCtr []) rs3 sc3 [dA [dS ps,dL a []],dA [dS qs,dL c []],dL es [],dI turn]=(Jm (frg sc3 0) { tm:=[(2,dL es []),(3,dI turn),(4,dP 0 0),(5,dP 1 0)],ob:=[(0,oC [dS ps,dL a []]),(1,oC [dS qs,dL c []])] }:Tr):=by kernel_rfl
abbrev obAt (ps:LU) (a:LD) (qs:LU) (c:LD):Obs:=[(0,.cells [.str ps,.slice a []]),(1,.cells [.str qs,.slice c []])]
abbrev tmAt (es:LD) (turn:Int):List (Nat × D):=[(2,.slice es []),(3,.int .i64 turn),(4,.ptr 0 0),(5,.ptr 1 0)]
theorem Zn1 (ps:LU) (a:LD) (qs:LU) (c es:LD) (turn:Int):gH (mCtr [(16,dB true)]) 0 true rs3 (frg sc3 0) { tm:=tmAt es turn,ob:=obAt ps a qs c }=(Ow (FK 7 [] (dB true)) (Jm (frg sc3 1) { tm:=[(2,dL es []),(3,dI turn),(4,dP 0 0),(5,dP 1 0)],ob:=[(0,oC [dS ps,dL a []]),(1,oC [dS qs,dL c []])] }):Tr):=by kernel_rfl
theorem Zn0 (ps:LU) (a:LD) (qs:LU) (c es:LD) (turn:Int) (b:Bool):let A:=Rt (dB true) [];let B:=(↑(List.length a):Int);gH (mCtr [(26,dB b)]) 0 true rs3 (frg sc3 1) { tm:=tmAt es turn,ob:=obAt ps a qs c }=(Ow (Zc 4 a/\0+List.length a<=1073741824) (Ow (Zc 4 c/\List.length ([]++a)+List.length c<=1073741824) (Ow (FK 8 [dL es [],dL ([]++a++c) []] (dB b)) (brT (!b) A (brT (decide ((150:Int)<(↑(List.length es):Int))) A (brT (!decide (B=(↑(List.length c):Int))) A (brT (decide (B=(0:Int))) A (Jm (frg sc3 2) { tm:=[(2,dL es []),(3,dI turn),(4,dP 0 0),(5,dP 1 0)],ob:=[(0,oC [dS ps,dL a []]),(1,oC [dS qs,dL c []])] }))))))):Tr):=by intro A B;kernel_rfl
theorem ZmZ (ps:LU) (a:LD) (qs:LU) (c es:LD) (turn k:Int):gH (mCtr [(52,dI k)]) 0 true rs3 (frg sc3 2) { tm:=tmAt es turn,ob:=obAt ps a qs c }=(Ow (FK 9 [dI turn,dI (↑(List.length a):Int)] (dI k)) (Jm (frg sc3 3) { tm:=[(2,dL es []),(4,dP 0 0),(5,dP 1 0),(9,dI k)],ob:=[(0,oC [dS ps,dL a []]),(1,oC [dS qs,dL c []])] }):Tr):=by kernel_rfl
abbrev ZdL (es:LD) (k:Int):List (Nat × D):=[(2,.slice es []),(4,.ptr 0 0),(5,.ptr 1 0),(9,.int .i64 k)]
theorem ZmY (ps:LU) (a:LD) (qs:LU) (c es:LD) (k:Int):gH (mCtr []) 0 true rs3 (frg sc3 3) { tm:=ZdL es k,ob:=obAt ps a qs c }=(Jm (frg sc3 4) { tm:=[(2,dL es []),(4,dP 0 0),(5,dP 1 0),(9,dI k),(10,dP 2 0),(11,dP 3 0)],ob:=[(0,oC [dS ps,dL a []]),(1,oC [dS qs,dL c []]),(2,oC [dS ps,dL a []]),(3,oC [dS qs,dL c []])] }:Tr):=by kernel_rfl
theorem ZmX (ps:LU) (a:LD) (qs:LU) (c es:LD) (k:Int) (A X B Y:LD):let C:=(↑(List.length a):Int);let E:=[dS qs,dL c []];let F:=(↑(List.length (a++[])):Int);let G:=Int.toNat k;let H:=[dS ps,dL a []];let I:=Int.toNat C;let J:=(10,dP 2 0);let K:=(11,dP 3 0);gH (mCtr [] [(59,[dL A X]),(64,[dL B Y])]) 0 true rs3 (frg sc3 4) { tm:=ZdL es k++[J,K],ob:=obAt ps a qs c++[(2,oC H),(3,oC E)] }=(Ow (Zc 4 (a++[])/\(0:Int)<=k/\k<=C/\C<=F) (Ow (List.drop G (List.take I (a++[]))=A/\List.drop I (a++[])=X) (Ow (Zc 4 A/\0+List.length A<=1073741824) (Ow (Zc 4 (a++[])/\(0:Int)<=(0:Int)/\(0:Int)<=k/\k<=F) (Ow (List.drop 0 (List.take G (a++[]))=B/\List.drop G (a++[])=Y) (Ow (Zc 4 B/\List.length ([]++A)+List.length B<=1073741824) (Jm (frg sc3 5) { tm:=[(2,dL es []),(4,dP 0 0),(5,dP 1 0),(9,dI k),J,K],ob:=[(0,oC H),(1,oC E),(2,oC [dS ps,dV 4]),(3,oC E),(4,oR true 4 35 ([]++A++B))] })))))):Tr):=by intro C E F G H I J K;kernel_rfl
theorem ZmW (ps:LU) (a:LD) (qs:LU) (c es r1:LD) (k:Int) (A X B Y:LD):let C:=(↑(List.length c):Int);let E:=(↑(List.length (c++[])):Int);let F:=Int.toNat k;let G:=(2,oC [dS ps,dV 4]);let H:=(4,oR true 4 35 r1);let I:=[dS qs,dL c []];let J:=Int.toNat C;let K:=(10,dP 2 0);let L:=(11,dP 3 0);gH (mCtr [] [(71,[dL A X]),(76,[dL B Y])]) 0 true rs3 (frg sc3 5) { tm:=ZdL es k++[K,L],ob:=obAt ps a qs c++[G,(3,oC I),H] }=(Ow (Zc 4 (c++[])/\(0:Int)<=k/\k<=C/\C<=E) (Ow (List.drop F (List.take J (c++[]))=A/\List.drop J (c++[])=X) (Ow (Zc 4 A/\0+List.length A<=1073741824) (Ow (Zc 4 (c++[])/\(0:Int)<=(0:Int)/\(0:Int)<=k/\k<=E) (Ow (List.drop 0 (List.take F (c++[]))=B/\List.drop F (c++[])=Y) (Ow (Zc 4 B/\List.length ([]++A)+List.length B<=1073741824) (Jm (frg sc3 6) { tm:=[(2,dL es []),(4,dP 0 0),(5,dP 1 0),K,L],ob:=[(0,oC [dS ps,dL a []]),(1,oC I),G,(3,oC [dS qs,dV 5]),H,(5,oR true 4 35 ([]++A++B))] })))))):Tr):=by intro C E F G H I J K L;kernel_rfl
abbrev Zia (es:LD):List (Nat × D):=[(2,.slice es []),(4,.ptr 0 0),(5,.ptr 1 0),(10,.ptr 2 0),(11,.ptr 3 0)]
abbrev Zk2 (ps:LU) (a:LD) (qs:LU) (c r1 r2:LD):Obs:=obAt ps a qs c++[(2,.cells [.str ps,.vec 4]),(3,.cells [.str qs,.vec 5]),(4,.arr true 4 35 r1),(5,.arr true 4 35 r2)]
theorem Zdn (ps:LU) (a:LD) (qs:LU) (c es r1 r2 out:LD) (ok:Bool):let A:=[dL out [],dB ok];gH (mCtr [(83,D.tuple A)]) 0 true rs3 (frg sc3 6) { tm:=Zia es,ob:=Zk2 ps a qs c r1 r2 }=(Ow (FK 10 [dA [dS ps,dL a []],dA [dS qs,dL c []],dL es []] (D.tuple A)) (Jm (frg sc3 7) { tm:=[(2,dL es []),(10,dP 0 0),(11,dP 1 0),(12,dL out []),(13,dB ok)],ob:=[(0,oC [dS ps,dV 2]),(1,oC [dS qs,dV 3]),(2,oR true 4 35 r1),(3,oR true 4 35 r2)] }):Tr):=by intro A;kernel_rfl
theorem Zdm (ps qs:LU) (es r1 r2 out:LD) (ok:Bool) (out2:LD) (ok2:Bool):let A:=[dL out2 [],dB ok2];let B:=(12,dL out []);gH (mCtr [(90,D.tuple A)]) 0 true rs3 (frg sc3 7) { tm:=[(2,dL es []),(10,dP 0 0),(11,dP 1 0),B,(13,dB ok)],ob:=[(0,oC [dS ps,dV 2]),(1,oC [dS qs,dV 3]),(2,oR true 4 35 r1),(3,oR true 4 35 r2)] }=(Ow (FK 10 [dA [dS ps,dL r1 []],dA [dS qs,dL r2 []],dL es []] (D.tuple A)) (Jm (frg sc3 8) { tm:=[B,(13,dB ok),(14,dL out2 []),(15,dB ok2)],ob:=[] }):Tr):=by intro A B;kernel_rfl
theorem Zdl (out:LD) (ok:Bool) (out2:LD) (ok2 b:Bool):gH (mCtr [(99,dB b)]) 0 true rs3 (frg sc3 8) { tm:=[(12,dL out []),(13,dB ok),(14,dL out2 []),(15,dB ok2)],ob:=[] }=(brT (ok == ok2) (Ow (FK 11 [dL out [],dL out2 []] (dB b)) (Rt (dB b) [])) (Rt (dB false) []):Tr):=by kernel_rfl
theorem ZmV (n m:Int):gP (mCtr []) rs9 sc9 [dI n,dI m]=(brT (decide (m<(1:Int))) (Rt (dI (0:Int)) []) (Ow (m≠(0:Int)) (brT (decide (Int.tmod n m<(0:Int))) (I8 (Int.tmod n m+m) (Rt (dI (Int.tmod n m+m)) [])) (Rt (dI (Int.tmod n m)) []))):Tr):=by kernel_rfl
theorem ZmU (es cs:LD):gP (mCtr []) rs11 sc11 [dL es [],dL cs []]=(brT (!decide ((↑(List.length es):Int)=(↑(List.length cs):Int))) (Rt (dB false) []) (Jm (cut sc11 0) { tm:=[(0,dL es []),(1,dL cs []),(5,dI (0:Int))],ob:=[] }):Tr):=by kernel_rfl
def hdSb (es cs:LD) (i:Int):St:=⟨[(0,.slice es []),(1,.slice cs []),(5,.int .i64 i)],[]⟩
theorem Zat (es cs:LD) (i:Nat) (m:LU) (k n:Int) (s:LU) (a:LD) (m':LU) (k' n':Int) (s':LU) (a':LD) (b:Bool):let A:=bC m' k' n' s' a';let B:=((↑i:Int)+(1:Int));let C:=bC m k n s a;let E:=cut sc11 0;gH (mCtr [(25,dB b)] [(19,bC m k n s a),(23,bC m' k' n' s' a')]) 0 true rs11 E (hdSb es cs (↑i:Int))=(brT (decide ((↑i:Int)<(↑(List.length es):Int))) (Ow ((0:Int)<=(↑i:Int)/\es[Int.toNat (↑i:Int)]? = some C) (Ow ((0:Int)<=(↑i:Int)/\cs[Int.toNat (↑i:Int)]? = some A) (Ow (FK 36 [dA C,dA A] (dB b)) (brT (!b) (Rt (dB false) []) (I8 B (Jm E { tm:=[(0,dL es []),(1,dL cs []),(5,dI B)],ob:=[] })))))) (Rt (dB true) []):Tr):=by intro A B C E;kernel_rfl
theorem ZhD (m:LU) (k n:Int) (s:LU) (a:LD) (m':LU) (k' n':Int) (s':LU) (a':LD) (b:Bool):gP (mCtr [(15,dB b)]) rs36 sc36 [dA (bC m k n s a),dA (bC m' k' n' s' a')]=(brT (decide (m=m')) (Ow (FK 24 [dA (tC k n s a),dA (tC k' n' s' a')] (dB b)) (Rt (dB b) [])) (Rt (dB false) []):Tr):=by kernel_rfl
end Go.Proofs.YtobgkdlghljdlaaGreatDoor
