/- Own work: a layer over the kit: plain data,a walk over it,its soundness. -/
import Derived.Test.YtobgkdlghljdlaaGreatDoorLibT
import Derived.Test.YtobgkdlghljdlaaGreatDoorSx8
set_option linter.unusedSectionVars false
set_option linter.unusedVariables false
set_option linter.unusedSimpArgs false
set_option linter.deprecated false
set_option maxRecDepth 100000
/- every,subterms,visit. -/
namespace Go.Proofs.YtobgkdlghljdlaaGreatDoor
open Go.Sx
def asmV (r:D):QT:=fun d xs ob=>match ob with
 | []=>some (.ok (CallL Tryz.prog d xs [] fun r0 ob0=>r0=r/\ob0=[]) r [])
 | _=>none
theorem Zgz (r:D):(asmV r).OK:=by
 intro d xs ob rt h
 unfold asmV at h
 split at h
 ·cases h; exact fun hp=>hp
 ·cases h
theorem ZhT (k n:Int) (s:LU) (a:LD):let A:=[dU k,dI n,dS s,dL a []];gC (ctr libT) 0 rs72 sc72 [] [dA A] [] []=(Rt (dF 107 [] [dP 0 0]) [(0,oC A)]:Tr):=by intro A;kernel_rfl
def subQ:QT:=fun d xs ob=>match d,xs,ob with
 | .func (.func f) [] [],[.agg [.int .u8 k,.int .i64 n,.str s,.slice a []]],[]=>if f=72 then some (.ok True (.func (.func 107) [] [.ptr 0 0]) [(0,.cells [.int .u8 k,.int .i64 n,.str s,.slice a []])]) else none
 | _,_,_=>none
theorem ZdT:subQ.OK:=by
 intro d xs ob rt h
 unfold subQ at h
 split at h
 ·split at h
  ·rename_i hf
   subst hf
   cases h
   intro _
   exact CallL.tree Z4 fp72 (Z3 Z2 Z0) (ZhT _ _ _ _) ⟨rfl,rfl⟩
  ·cases h
 ·cases h
def Z95:List Nat:=[7,6,4,3,2,0,1]
abbrev tC (k n:Int) (s:LU) (a:LD):List D:=[.int .u8 k,.int .i64 n,.str s,.slice a []]
def dsEv (k n:Int) (s:LU) (a:LD) (f:FuncId) (t0 q u v:Nat):List D:=[.func (.func 107) [] [.ptr t0 0],.agg (tC k n s a),.ptr q 0,.ptr u 0,.ptr v 0,.agg (tC k n s a),.func (.func f) [] []]
def ZjO (st:LoopState) (pend:Option Code) (ds:List D):Ob:= .gen (.loop st pend #[8] (sc38.rngA 0) (sc38.rngB 0) 13 Z95) ds
def obEv (k n:Int) (s:LU) (a:LD) (f:FuncId) (st:LoopState) (pend:Option Code) (b:Bool):Obs:=[(0,.cells (tC k n s a)),(1,ZjO st pend (dsEv k n s a f 0 2 3 4)),(2,.cells [.bool b]),(3,.cells [.func (.func f) [] []]),(4,.cells (tC k n s a))]
def obVi (k n:Int) (s:LU) (a:LD) (f:FuncId) (st:LoopState) (pend:Option Code):Obs:=[(0,ZjO st pend (dsEv k n s a f 1 2 3 4)),(1,.cells (tC k n s a)),(2,.cells [.bool false]),(3,.cells [.func (.func f) [] []]),(4,.cells (tC k n s a))]
def Zlz:Obs->Obs
 | (i,.gen (.loop _ _ ps ra rb N ks) ds)::r=>(i,.gen (.loop .done (some .ret) ps ra rb N ks) ds)::r
 | ob=>ob
def asmB (b:Bool):QT:=fun d xs ob=>some (.br b (.ok (CallL Tryz.prog d xs ob fun r o=>r= .bool true/\o=ob) (.bool true) ob) (.ok (CallL Tryz.prog d xs ob fun r o=>r= .bool false/\o=Zlz ob) (.bool false) (Zlz ob)))
theorem Z3V (b:Bool):(asmB b).OK:=by
 intro d xs ob rt h
 cases h
 cases b
 ·exact fun hp=>hp
 ·exact fun hp=>hp
theorem Znb (kx nx:Int) (sx:LU) (ax:LD) (k n:Int) (s:LU) (a:LD) (f:FuncId) (b:Bool):let A:=[dF 107 [] [dP 1 0],dA (tC k n s a),dP 2 0,dP 3 0,dP 4 0,dA (tC k n s a),dF f [] []];let B:=tC k n s a;let C:=(3,oC [dF f [] []]);let E:=(2,oC [dB false]);let F:=tC kx nx sx ax;let G:=SC.rngA sc38 0;let H:=SC.rngB sc38 0;let I:=some Code.ret;gC (ctr libT (asmB b)) 5 Z8A Z7l [] [dA F,D.yld 0] [] (obVi k n s a f LoopState.ready none)=(brT b (Ow (CallL Tryz.prog (D.yld 0) [dA F] [(0,gL .ready none #[8] sc38 0 13 [7,6,4,3,2,0,1] A),(1,oC B),E,C,(4,oC B)] fun r o=>r=dB true/\o=[(0,gL .ready none #[8] sc38 0 13 [7,6,4,3,2,0,1] A),(1,oC B),E,C,(4,oC B)]) (Jm (cut Z7l 0) { tm:=[(1,D.yld 0),(12,dL ax []),(13,dI (↑(List.length ax):Int)),(14,dI (0:Int))],ob:=[(0,gL .ready none #[8] sc38 0 13 [7,6,4,3,2,0,1] A),(1,oC B),E,C,(4,oC B)] })) (Ow (CallL Tryz.prog (D.yld 0) [dA F] [(0,gL .ready none #[8] sc38 0 13 [7,6,4,3,2,0,1] A),(1,oC B),E,C,(4,oC B)] fun r o=>r=dB false/\o=[(0,Ob.gen (Gen.loop LoopState.done I #[8] G H 13 [7,6,4,3,2,0,1]) A),(1,oC B),E,C,(4,oC B)]) (Rt (dB false) [(0,Ob.gen (Gen.loop LoopState.done I #[8] G H 13 [7,6,4,3,2,0,1]) A),(1,oC B),E,C,(4,oC B)])):Tr):=by intro A B C E F G H I;kernel_rfl
theorem Zmc (kx nx:Int) (sx:LU) (ax:LD) (k n:Int) (s:LU) (a:LD) (f:FuncId) (b:Bool):let A:=tC k n s a;let B:=[dF 107 [] [dP 1 0],dA A,dP 2 0,dP 3 0,dP 4 0,dA A,dF f [] []];let C:=(3,oC [dF f [] []]);let E:=(2,oC [dB false]);let F:=dsEv k n s a f 1 2 3 4;let G:=[dA (tC kx nx sx ax)];let H:=SC.rngA sc38 0;let I:=SC.rngB sc38 0;yldT Tryz.prog (ctr libT (asmV (dB b))) 5 0 13 #[8] H I Z95 F 2000 { tm:=putP (List.zip [8] G) (List.zip Z95 F),ob:=[(1,oC A),E,C,(4,oC A)] }=(Ow (CallL Tryz.prog (dF f [] []) G [] fun r0 ob0=>r0=dB b/\ob0=[]) (brT (!b) (Rt (dB false) [(0,Ob.gen (Gen.loop LoopState.done (some Code.ret) #[8] H I 13 [7,6,4,3,2,0,1]) B),(1,oC A),E,C,(4,oC A)]) (Rt (dB true) [(0,gL .ready none #[8] sc38 0 13 [7,6,4,3,2,0,1] B),(1,oC A),E,C,(4,oC A)])):Tr):=by intro A B C E F G H I;kernel_rfl
def hdVi (ax:LD) (m i:Int) (ob:Obs):St:=⟨[(1,.yld 0),(12,.slice ax []),(13,.int .i64 m),(14,.int .i64 i)],ob⟩
theorem ZaA (a':LD) (m i kx nx:Int) (sx:LU) (ax:LD) (k n:Int) (s:LU) (a:LD) (f:FuncId) (b:Bool):let A:=[dF 107 [] [dP 1 0],dA (tC k n s a),dP 2 0,dP 3 0,dP 4 0,dA (tC k n s a),dF f [] []];let B:=tC k n s a;let C:=(3,oC [dF f [] []]);let E:=(2,oC [dB false]);let F:=tC kx nx sx ax;let G:=SC.rngA sc38 0;let H:=SC.rngB sc38 0;let I:=some Code.ret;let J:=[dA F,D.yld 0];let K:=cut Z7l 0;let L:=(i+(1:Int));gH (ctr libT (asmB b) fun x x_1=>tC kx nx sx ax) 5 false Z8A K (hdVi a' m i (obVi k n s a f LoopState.ready none))=(brT (decide (i<m)) (Ow ((0:Int)<=i/\a'[Int.toNat i]? = some F) (brT b (Ow (CF 108 J [(0,gL .ready none #[8] sc38 0 13 [7,6,4,3,2,0,1] A),(1,oC B),E,C,(4,oC B)] fun r o=>r=dB true/\o=[(0,gL .ready none #[8] sc38 0 13 [7,6,4,3,2,0,1] A),(1,oC B),E,C,(4,oC B)]) (I8 L (Jm K { tm:=[(1,D.yld 0),(12,dL a' []),(13,dI m),(14,dI L)],ob:=[(0,gL .ready none #[8] sc38 0 13 [7,6,4,3,2,0,1] A),(1,oC B),E,C,(4,oC B)] }))) (Ow (CF 108 J [(0,gL .ready none #[8] sc38 0 13 [7,6,4,3,2,0,1] A),(1,oC B),E,C,(4,oC B)] fun r o=>r=dB false/\o=[(0,Ob.gen (Gen.loop LoopState.done I #[8] G H 13 [7,6,4,3,2,0,1]) A),(1,oC B),E,C,(4,oC B)]) (Rt (dB false) [(0,Ob.gen (Gen.loop LoopState.done I #[8] G H 13 [7,6,4,3,2,0,1]) A),(1,oC B),E,C,(4,oC B)])))) (Rt (dB true) [(0,gL .ready none #[8] sc38 0 13 [7,6,4,3,2,0,1] A),(1,oC B),E,C,(4,oC B)]):Tr):=by intro A B C E F G H I J K L;kernel_rfl
theorem ZhU (k n:Int) (s:LU) (a:LD) (f:FuncId) (b:Bool):let A:=tC k n s a;let B:=[dF 107 [] [dP 1 0],dA A,dP 2 0,dP 3 0,dP 4 0,dA A,dF f [] []];let C:=(3,oC [dF f [] []]);let E:=(2,oC [dB false]);let F:=[dF 107 [] [dP 0 0],dA A,dP 2 0,dP 3 0,dP 4 0,dA A,dF f [] []];let G:=SC.rngA sc38 0;let H:=SC.rngB sc38 0;let I:=some Code.ret;let J:=[dA A,D.yld 0];let K:=D.tuple [];gC (ctr libT (asmB b)) 5 Zf7 Zer [] [D.yld 1] [dP 0 0] (obEv k n s a f LoopState.ready none false)=(brT b (Ow (CF 108 J [(0,gL .ready none #[8] sc38 0 13 [7,6,4,3,2,0,1] B),(1,oC A),E,C,(4,oC A)] fun r o=>r=dB true/\o=[(0,gL .ready none #[8] sc38 0 13 [7,6,4,3,2,0,1] B),(1,oC A),E,C,(4,oC A)]) (Rt K [(0,oC A),(1,gL .ready none #[8] sc38 0 13 [7,6,4,3,2,0,1] F),E,C,(4,oC A)])) (Ow (CF 108 J [(0,gL .ready none #[8] sc38 0 13 [7,6,4,3,2,0,1] B),(1,oC A),E,C,(4,oC A)] fun r o=>r=dB false/\o=[(0,Ob.gen (Gen.loop LoopState.done I #[8] G H 13 [7,6,4,3,2,0,1]) B),(1,oC A),E,C,(4,oC A)]) (Rt K [(0,oC A),(1,Ob.gen (Gen.loop LoopState.done I #[8] G H 13 [7,6,4,3,2,0,1]) F),E,C,(4,oC A)])):Tr):=by intro A B C E F G H I J K;kernel_rfl
def asmI (b:Bool):QT:=fun d xs ob=>match d,ob with
 | .func (.func _) [] [.ptr 0 0],(0,c)::(1,.gen (.loop _ _ ps ra rb N ks) ds)::r=>some (.br b (.ok (CallL Tryz.prog d xs ob fun r o=>r= .tuple []/\o=ob) (.tuple []) ob) (.ok (CallL Tryz.prog d xs ob fun r0 o=>r0= .tuple []/\o=(0,c)::(1,.gen (.loop .done (some .ret) ps ra rb N ks) ds)::r) (.tuple []) ((0,c)::(1,.gen (.loop .done (some .ret) ps ra rb N ks) ds)::r)))
 | _,_=>none
theorem ZgA (b:Bool):(asmI b).OK:=by
 intro d xs ob rt h
 unfold asmI at h
 split at h
 ·cases h
  cases b
  ·exact fun hp=>hp
  ·exact fun hp=>hp
 ·cases h
theorem Znm (k n:Int) (s:LU) (a:LD) (f:FuncId) (b:Bool):let A:=SC.block 1 (SC.seq (SC.reg [so 9 (AOp.load false 1) [xt 3],so 10 (AOp.load true 4) [xt 5],SOp.cd (some 11) none (xt 9) [xt 10],so 12 (AOp.un UnOp.not) [xt 11]]) (SC.cond (xt 12) (SC.seq (SC.reg [SOp.st none (SK.c 1) (xt 4) (xc (dB false))]) SC.ret) SC.skip));let B:=(SC.reg [so 5 (AOp.alloc [dU (0:Int),dI (0:Int),dS [],D.nils]) [],SOp.st none (SK.c 4) (xt 5) (xt 8)]);let C:=[dF 107 [] [dP 0 0],dA (tC k n s a),dP 2 0,dP 3 0,dP 4 0,dA (tC k n s a),dF f [] []];let E:=tC k n s a;let F:=(3,oC [dF f [] []]);let G:=(2,oC [dB false]);let H:=dF 107 [] [dP 0 0];gC (ctr libT (QT.or subQ (asmI b))) 0 rs38 sc38 [] [dA E,dF f [] []] [] []=(Ow True (brT b (Ow (CallL Tryz.prog H [D.yld 1] [(0,oC E),(1,Ob.gen (Gen.loop LoopState.ready none #[8] B A 13 [7,6,4,3,2,0,1]) C),G,F,(4,oC E)] fun r o=>r=D.tuple []/\o=[(0,oC E),(1,Ob.gen (Gen.loop LoopState.ready none #[8] B A 13 [7,6,4,3,2,0,1]) C),G,F,(4,oC E)]) (Rt (dB true) [])) (Ow (CallL Tryz.prog H [D.yld 1] [(0,oC E),(1,Ob.gen (Gen.loop LoopState.ready none #[8] B A 13 [7,6,4,3,2,0,1]) C),G,F,(4,oC E)] fun r0 o=>r0=D.tuple []/\o=[(0,oC E),(1,Ob.gen (Gen.loop LoopState.done (some Code.ret) #[8] B A 13 [7,6,4,3,2,0,1]) C),G,F,(4,oC E)]) (Rt (dB false) []))):Tr):=by intro A B C E F G H;kernel_rfl
section
variable {h:Tm->Bool} {f:FuncId} (H: ∀ x:Tm,x.wf 281474976710656->CallL Tryz.prog (.func (.func f) [] []) [.agg x.cells] [] fun r ob=>r= .bool (h x)/\ob=[])
include H
def obRv (k n:Int) (s:LU) (a:LD) (f:FuncId) (b:Bool):Obs:=match b with
 | true=>obVi k n s a f .ready none
 | false=>obVi k n s a f .done (some .ret)
theorem Zdz (k n:Int) (s:LU) (a:LD) (x:Tm) (hx:x.wf 281474976710656):CallL Tryz.prog (.yld 0) [.agg x.cells] (obVi k n s a f .ready none) fun r ob=>r= .bool (h x)/\ob=obRv k n s a f (h x):=by
 have hH:=H x hx
 generalize h x=b at hH ⊢
 obtain⟨kx,nx,sx,ax⟩:=x
 refine CallL.yldT Z4 (Z3 Z2 (Zgz (.bool b))) rfl (Zmc kx nx sx (Tm.cellsL ax) k n s a f b) ?_
 rw[Zh,Qt,Ze,Ze]
 refine⟨hH,fun hb=> ?_,fun hb=> ?_⟩
 ·cases b
  ·exact⟨rfl,rfl⟩
  ·cases hb
 ·cases b
  ·cases hb
  ·exact⟨rfl,rfl⟩
def VisC (h:Tm->Bool) (f:FuncId) (k n:Int) (s:LU) (a:LD) (x:Tm):Prop:=CF 108 [.agg x.cells,.yld 0] (obVi k n s a f .ready none) fun r ob=>r= .bool (x.all h)/\ob=obRv k n s a f (x.all h)
omit H in
theorem Zi7 (k n:Int) (s:LU) (a:LD) (l:List Tm) (hl:l.length<=281474976710656) (HV: ∀ x∈l,VisC h f k n s a x): ∀ (m i:Nat),l.length-i=m->i<=l.length →
  At Tryz.prog 5 (cut Z7l 0) (hdVi (Tm.cellsL l) l.length i (obVi k n s a f .ready none)) (FinQ false 5 Z8A fun r ob=>r= .bool (Tm.allL h (l.drop i))/\ob=obRv k n s a f (Tm.allL h (l.drop i))):=by
 intro m
 induction m with
 | zero =>
  intro i hm hi
  refine At.tree (Z3 Z2 (Z3V true)) (ZaA (Tm.cellsL l) l.length i 0 0 [] [] k n s a f true) ?_
  rw[List.drop_eq_nil_of_le (by omega)]
  rw[Qt]
  refine⟨fun h=> ?_,fun _=> ?_⟩
  ·have:=of_decide_eq_true h; omega
  ·rw[Ze]; exact⟨rfl,rfl⟩
 | succ m ih =>
  intro i hm hi
  have h1:i<l.length:=by omega
  have hx:(Tm.cellsL l)[i]? = some l[i].cells:=by rw[Zp]; simp[h1]
  have hC:=HV _ (List.getElem_mem h1)
  have hd:l.drop i=l[i]::l.drop (i+1):=List.drop_eq_getElem_cons h1
  have hI:=ih (i+1) (by omega) (by omega)
  rw[hd]
  simp only[Tm.allL]
  unfold VisC at hC
  generalize Tm.all h l[i]=b at hC ⊢
  generalize l[i]=x at hx hC
  obtain⟨kx,nx,sx,ax⟩:=x
  refine At.tree (Z3 Z2 (Z3V b)) (ZaA (Tm.cellsL l) l.length i kx nx sx (Tm.cellsL ax) k n s a f b) ?_
  rw[Qt]
  refine⟨fun _=> ?_,fun h=> ?_⟩
  ·rw[Zh,Int.toNat_natCast]
   refine⟨⟨by omega,hx⟩, ?_⟩
   cases b
   ·rw[ZK,Zh,Ze]
    exact⟨hC,rfl,rfl⟩
   ·rw[ZZ,Zh,Zh,Z9,Bool.true_and]
    exact⟨hC,by omega,hI⟩
  ·have:=of_decide_eq_false h; omega
theorem Zcp (k n:Int) (s:LU) (a:LD): ∀ x:Tm,x.wf 281474976710656->VisC h f k n s a x
 | .mk kx nx sx l,hx=>by
  have hy:=Zdz H k n s a (.mk kx nx sx l) hx
  simp only[Tm.wf] at hx
  obtain⟨hk,hn1,hn2,hs,hl,hw⟩:=hx
  have hA:=Zi7 (h:=h) (f:=f) k n s a l hl (fun x hx=>Zcp k n s a x (QQ.1 hw x hx)) _ 0 rfl (Nat.zero_le _)
  unfold VisC
  simp only[Tm.all]
  generalize h (.mk kx nx sx l)=b at hy ⊢
  refine CallL.tree Z4 Zle (Z3 Z2 (Z3V b)) (Znb kx nx sx (Tm.cellsL l) k n s a f b) ?_
  cases b
  ·rw[ZK,Zh,Ze,Bool.false_and]
   exact⟨hy,rfl,rfl⟩
  ·rw[ZZ,Zh,Z9,Bool.true_and,Z1]
   exact⟨hy,hA⟩
termination_by x=>SizeOf.sizeOf x
decreasing_by
 have:=List.sizeOf_lt_of_mem hx
 simp only[Tm.mk.sizeOf_spec]
 omega
theorem Z3K (x:Tm) (hx:x.wf 281474976710656):CF 38 [.agg x.cells,.func (.func f) [] []] [] fun r ob=>r= .bool (x.all h)/\ob=[]:=by
 obtain⟨k,n,s,l⟩:=x
 have hv:=Zcp H k n s (Tm.cellsL l) (.mk k n s l) hx
 unfold VisC at hv
 generalize Tm.all h (.mk k n s l)=b at hv ⊢
 have hs:CallL Tryz.prog (.func (.func 107) [] [.ptr 0 0]) [.yld 1] (obEv k n s (Tm.cellsL l) f .ready none false) fun r ob=>r= .tuple []/\ob=match b with
   | true=>obEv k n s (Tm.cellsL l) f .ready none false
   | false=>obEv k n s (Tm.cellsL l) f .done (some .ret) false:=by
  refine CallL.tree Z4 Zlf (Z3 Z2 (Z3V b)) (ZhU k n s (Tm.cellsL l) f b) ?_
  cases b
  ·rw[ZK,Zh,Ze]
   exact⟨hv,rfl,rfl⟩
  ·rw[ZZ,Zh,Ze]
   exact⟨hv,rfl,rfl⟩
 refine CallL.tree Z4 fp38 (Z3 Z2 (QT.or_ok ZdT (ZgA b))) (Znm k n s (Tm.cellsL l) f b) ?_
 rw[Zh]
 refine⟨trivial, ?_⟩
 cases b
 ·rw[ZK,Zh,Ze]
  exact⟨hs,rfl,rfl⟩
 ·rw[ZZ,Zh,Ze]
  exact⟨hs,rfl,rfl⟩
end
end Go.Proofs.YtobgkdlghljdlaaGreatDoor
/- The words of terms. -/
namespace Go.Proofs.YtobgkdlghljdlaaGreatDoor
open Go.Sx
def tb (p:UInt8->Bool) (b:Int):Bool:=p (UInt8.ofNat b.toNat)
theorem Z5X (p:UInt8->Bool) (b:UInt8):tb p (b.toNat:Int)=p b:=by simp[tb]
theorem Z4R (p:UInt8->Bool) (b:Int) (hb:0<=b/\b<256) {q:Int->Bool} (h:(List.range 256).all (fun n=>tb p (n:Int) == q (n:Int))=true):tb p b=q b:=by
 have:=List.all_eq_true.1 h b.toNat (List.mem_range.2 (by omega))
 rw[Int.toNat_of_nonneg hb.1] at this
 simpa using this
theorem ZgL (b:Int):gP (ctr libT) Zba Zb2 [dU b]=(brT (decide ((97:Int)<=b)) (Rt (dB (decide (b<=(122:Int)))) []) (Rt (dB false) []):Tr):=by kernel_rfl
theorem ZgJ (b:Int):gP (ctr libT) rs55 sc55 [dU b]=(brT (decide ((65:Int)<=b)) (Rt (dB (decide (b<=(90:Int)))) []) (Rt (dB false) []):Tr):=by kernel_rfl
theorem ZgM (b:Int):gP (ctr libT) rs57 sc57 [dU b]=(brT (decide ((48:Int)<=b)) (Rt (dB (decide (b<=(57:Int)))) []) (Rt (dB false) []):Tr):=by kernel_rfl
theorem ZfD (b:Int) (hb:0<=b/\b<256):FK 110 [.int .u8 b] (.bool (tb Lx.isLow b)):=by
 refine FnOK.tree Z4 Zg2 (Z3 Z2 Z0) (ZgL b) ?_
 rw[Z4R Lx.isLow b hb (q:=fun b=>decide (97<=b) && decide (b<=122)) (by kernel_rfl)]
 cases h:decide (97<=b) <;> simp[brT,Ze]
theorem ZdI (b:Int) (hb:0<=b/\b<256):FK 55 [.int .u8 b] (.bool (tb Lx.isUp b)):=by
 refine FnOK.tree Z4 fp55 (Z3 Z2 Z0) (ZgJ b) ?_
 rw[Z4R Lx.isUp b hb (q:=fun b=>decide (65<=b) && decide (b<=90)) (by kernel_rfl)]
 cases h:decide (65<=b) <;> simp[brT,Ze]
theorem Zgh (b:Int) (hb:0<=b/\b<256):FK 57 [.int .u8 b] (.bool (tb Lx.isDig b)):=by
 refine FnOK.tree Z4 fp57 (Z3 Z2 Z0) (ZgM b) ?_
 rw[Z4R Lx.isDig b hb (q:=fun b=>decide (48<=b) && decide (b<=57)) (by kernel_rfl)]
 cases h:decide (48<=b) <;> simp[brT,Ze]
def bytP:PT:=fun f xs=>match xs with
 | [.int .u8 b]=>if f=110 then some (.ok (0<=b/\b<256) (.bool (tb Lx.isLow b)) []) else if f=55 then some (.ok (0<=b/\b<256) (.bool (tb Lx.isUp b)) [])
  else if f=57 then some (.ok (0<=b/\b<256) (.bool (tb Lx.isDig b)) []) else none
 | _=>none
theorem Zgt:bytP.OK:=by
 intro f xs rt h
 unfold bytP at h
 split at h
 ·split at h
  ·rename_i hf; subst hf; cases h; exact fun hp=>ZfD _ hp
  split at h
  ·rename_i hf; subst hf; cases h; exact fun hp=>ZdI _ hp
  split at h
  ·rename_i hf; subst hf; cases h; exact fun hp=>Zgh _ hp
  ·cases h
 ·cases h
theorem ZhO (b:Int):gC (ctr libT) 0 Zba Zb2 [] [dU b] [] []=(brT (decide ((97:Int)<=b)) (Rt (dB (decide (b<=(122:Int)))) []) (Rt (dB false) []):Tr):=by kernel_rfl
theorem ZhN (b:Int):gC (ctr libT) 0 rs55 sc55 [] [dU b] [] []=(brT (decide ((65:Int)<=b)) (Rt (dB (decide (b<=(90:Int)))) []) (Rt (dB false) []):Tr):=by kernel_rfl
theorem ZhQ (b:Int):gC (ctr libT) 0 rs57 sc57 [] [dU b] [] []=(brT (decide ((48:Int)<=b)) (Rt (dB (decide (b<=(57:Int)))) []) (Rt (dB false) []):Tr):=by kernel_rfl
theorem ZhP (b:Int):let A:=Rt (dB true) [];let B:=(256:Int);gC (ctr bytP) 0 rs92 sc92 [] [dU b] [] []=(Ow ((0:Int)<=b/\b<B) (brT (tb Lx.isLow b) A (Ow ((0:Int)<=b/\b<B) (brT (tb Lx.isUp b) A (Ow ((0:Int)<=b/\b<B) (brT (tb Lx.isDig b) A (Rt (dB (decide (b=(95:Int)))) [])))))):Tr):=by intro A B;kernel_rfl
theorem ZfE (b:Int) (hb:0<=b/\b<256):CF 110 [.int .u8 b] [] fun r ob=>r= .bool (tb Lx.isLow b)/\ob=[]:=by
 refine CallL.tree Z4 Zg2 (Z3 Z2 Z0) (ZhO b) ?_
 rw[Z4R Lx.isLow b hb (q:=fun b=>decide (97<=b) && decide (b<=122)) (by kernel_rfl)]
 cases h:decide (97<=b) <;> simp[brT,Ze]
theorem ZdJ (b:Int) (hb:0<=b/\b<256):CF 55 [.int .u8 b] [] fun r ob=>r= .bool (tb Lx.isUp b)/\ob=[]:=by
 refine CallL.tree Z4 fp55 (Z3 Z2 Z0) (ZhN b) ?_
 rw[Z4R Lx.isUp b hb (q:=fun b=>decide (65<=b) && decide (b<=90)) (by kernel_rfl)]
 cases h:decide (65<=b) <;> simp[brT,Ze]
theorem Zgi (b:Int) (hb:0<=b/\b<256):CF 57 [.int .u8 b] [] fun r ob=>r= .bool (tb Lx.isDig b)/\ob=[]:=by
 refine CallL.tree Z4 fp57 (Z3 Z2 Z0) (ZhQ b) ?_
 rw[Z4R Lx.isDig b hb (q:=fun b=>decide (48<=b) && decide (b<=57)) (by kernel_rfl)]
 cases h:decide (48<=b) <;> simp[brT,Ze]
theorem ZfO (b:Int) (hb:0<=b/\b<256):CF 92 [.int .u8 b] [] fun r ob=>r= .bool (tb Lx.isName b)/\ob=[]:=by
 refine CallL.tree Z4 fp92 (Z3 Zgt Z0) (ZhP b) ?_
 rw[Z4R Lx.isName b hb (q:=fun b=>tb Lx.isLow b || tb Lx.isUp b || tb Lx.isDig b || decide (b=95)) (by kernel_rfl)]
 simp only[Qt,Zh,Ze]
 refine⟨hb,fun h1=>by simp[h1],fun h1=>⟨hb,fun h2=>by simp[h2],fun h2=>⟨hb,fun h3=>by simp[h3],fun h3=>by simp[h1,h2,h3]⟩⟩⟩
def bytF (f:FuncId):Option (UInt8->Bool):=if f=110 then some Lx.isLow else if f=55 then some Lx.isUp else if f=57 then some Lx.isDig else if f=92 then some Lx.isName else none
theorem Zgu {f:FuncId} {p:UInt8->Bool} (h:bytF f=some p) (b:Int) (hb:0<=b/\b<256):CallL Tryz.prog (.func (.func f) [] []) [.int .u8 b] [] fun r ob=>r= .bool (tb p b)/\ob=[]:=by
 unfold bytF at h
 split at h
 ·rename_i hf; subst hf; cases h; exact ZfE b hb
 split at h
 ·rename_i hf; subst hf; cases h; exact ZdJ b hb
 split at h
 ·rename_i hf; subst hf; cases h; exact Zgi b hb
 split at h
 ·rename_i hf; subst hf; cases h; exact ZfO b hb
 ·cases h
def bytQ:QT:=fun d xs ob=>match d,xs,ob with
 | .func (.func f) [] [],[.int .u8 b],[]=>match bytF f with
  | some p=>some (.ok (0<=b/\b<256) (.bool (tb p b)) [])
  | none=>none
 | _,_,_=>none
theorem Z0J:bytQ.OK:=by
 intro d xs ob rt h
 unfold bytQ at h
 split at h
 ·split at h
  ·rename_i p hp; cases h; exact fun hb=>Zgu hp _ hb
  ·cases h
 ·cases h
theorem Zcl (s:LU):gC (ctr libT bytQ) 0 rs56 sc56 [] [dS s,dF 57 [] []] [] []=(Jm (cut sc56 0) { tm:=[(0,dS s),(1,dF 57 [] []),(7,dI (↑(List.length s):Int)),(8,dI (0:Int))],ob:=[] }:Tr):=by kernel_rfl
theorem Zck (s:LU):gC (ctr libT bytQ) 0 rs56 sc56 [] [dS s,dF 92 [] []] [] []=(Jm (cut sc56 0) { tm:=[(0,dS s),(1,dF 92 [] []),(7,dI (↑(List.length s):Int)),(8,dI (0:Int))],ob:=[] }:Tr):=by kernel_rfl
def ZbB (f:FuncId) (s:LU) (i:Int):St:=⟨[(0,.str s),(1,.func (.func f) [] []),(7,.int .i64 s.length),(8,.int .i64 i)],[]⟩
theorem Z4M (s:LU) (i:Int):let A:=(↑(UInt8.toNat (List.getD s (Int.toNat i) (0:UInt8))):Int);let B:=(↑(List.length s):Int);let C:=cut sc56 0;let E:=(i+(1:Int));gH (ctr libT bytQ) 0 false rs56 C (ZbB 57 s i)=(brT (decide (i<B)) (Ow ((0:Int)<=i/\i<B) (Ow ((0:Int)<=A/\A<(256:Int)) (brT (!tb Lx.isDig A) (Rt (dB false) []) (I8 E (Jm C { tm:=[(0,dS s),(1,dF 57 [] []),(7,dI B),(8,dI E)],ob:=[] }))))) (Rt (dB true) []):Tr):=by intro A B C E;kernel_rfl
theorem Z4L (s:LU) (i:Int):let A:=(↑(UInt8.toNat (List.getD s (Int.toNat i) (0:UInt8))):Int);let B:=(↑(List.length s):Int);let C:=cut sc56 0;let E:=(i+(1:Int));gH (ctr libT bytQ) 0 false rs56 C (ZbB 92 s i)=(brT (decide (i<B)) (Ow ((0:Int)<=i/\i<B) (Ow ((0:Int)<=A/\A<(256:Int)) (brT (!tb Lx.isName A) (Rt (dB false) []) (I8 E (Jm C { tm:=[(0,dS s),(1,dF 92 [] []),(7,dI B),(8,dI E)],ob:=[] }))))) (Rt (dB true) []):Tr):=by intro A B C E;kernel_rfl
theorem Z6Q {p:UInt8->Bool} {s:LU} {i:Nat} (h:i<s.length):(s.drop i).all p=(p (s.getD i 0) && (s.drop (i+1)).all p):=by
 rw[List.drop_eq_getElem_cons h,List.all_cons,List.getD_eq_getElem?_getD,List.getElem?_eq_getElem h]; rfl
theorem ZgG (s:LU) (hl:s.length<=4611686018427387904): ∀ (m i:Nat),s.length-i=m->i<=s.length →
  At Tryz.prog 0 (cut sc56 0) (ZbB 57 s i) (FinQ false 0 rs56 fun r ob=>r= .bool ((s.drop i).all Lx.isDig)/\ob=[]):=by
 intro m
 induction m with
 | zero =>
  intro i hm hi
  refine At.tree (Z3 Z2 Z0J) (Z4M s i) ?_
  rw[List.drop_eq_nil_of_le (by omega)]
  simp only[SS]
  exact⟨fun h=>by omega,fun _=>rfl⟩
 | succ m ih =>
  intro i hm hi
  refine At.tree (Z3 Z2 Z0J) (Z4M s i) ?_
  rw[Z6Q (by omega)]
  simp only[SS,Z5X]
  refine⟨fun _=>⟨by omega,Z9P _ _,fun h=>by simp only[h,Bool.false_and],fun h=>⟨by omega, ?_⟩⟩,fun h=>by omega⟩
  rw[h,Bool.true_and]
  exact ih (i+1) (by omega) (by omega)
theorem ZgF (s:LU) (hl:s.length<=4611686018427387904): ∀ (m i:Nat),s.length-i=m->i<=s.length →
  At Tryz.prog 0 (cut sc56 0) (ZbB 92 s i) (FinQ false 0 rs56 fun r ob=>r= .bool ((s.drop i).all Lx.isName)/\ob=[]):=by
 intro m
 induction m with
 | zero =>
  intro i hm hi
  refine At.tree (Z3 Z2 Z0J) (Z4L s i) ?_
  rw[List.drop_eq_nil_of_le (by omega)]
  simp only[SS]
  exact⟨fun h=>by omega,fun _=>rfl⟩
 | succ m ih =>
  intro i hm hi
  refine At.tree (Z3 Z2 Z0J) (Z4L s i) ?_
  rw[Z6Q (by omega)]
  simp only[SS,Z5X]
  refine⟨fun _=>⟨by omega,Z9P _ _,fun h=>by simp only[h,Bool.false_and],fun h=>⟨by omega, ?_⟩⟩,fun h=>by omega⟩
  rw[h,Bool.true_and]
  exact ih (i+1) (by omega) (by omega)
def allQ:QT:=fun d xs ob=>match d,xs,ob with
 | .func (.func f) [] [],[.str s,.func (.func g) [] []],[]=>if f=56 then (if g=57 then some (.ok (s.length<=4611686018427387904) (.bool (s.all Lx.isDig)) [])
   else if g=92 then some (.ok (s.length<=4611686018427387904) (.bool (s.all Lx.isName)) []) else none) else none
 | _,_,_=>none
theorem Za3:allQ.OK:=by
 intro d xs ob rt h
 unfold allQ at h
 split at h
 ·rename_i f s g
  split at h
  ·rename_i hf
   subst hf
   split at h
   ·rename_i hg
    subst hg
    cases h
    exact fun hl=>CallL.tree Z4 fp56 (Z3 Z2 Z0J) (Zcl s) (ZgG s hl _ 0 rfl (Nat.zero_le _))
   split at h
   ·rename_i hg
    subst hg
    cases h
    exact fun hl=>CallL.tree Z4 fp56 (Z3 Z2 Z0J) (Zck s) (ZgF s hl _ 0 rfl (Nat.zero_le _))
   ·cases h
  ·cases h
 ·cases h
end Go.Proofs.YtobgkdlghljdlaaGreatDoor
/- Symbol and Variable. -/
namespace Go.Proofs.YtobgkdlghljdlaaGreatDoor
open Go.Sx
theorem Zce (s t:LU):let A:=(↑(List.length t):Int);let B:=(↑(List.length s):Int);gP (ctr libT) ZeW Zeg [dS s,dS t]=(brT (decide (A<=B)) (Ow ((0:Int)<=(0:Int)/\(0:Int)<=A/\A<=B) (Rt (dB (decide (List.drop 0 (List.take (Int.toNat A) s)=t))) [])) (Rt (dB false) []):Tr):=by intro A B;kernel_rfl
theorem ZfT (s t:LU):FK 125 [.str s,.str t] (.bool (t.isPrefixOf s)):=by
 refine FnOK.tree Z4 Zl0 (Z3 Z2 Z0) (Zce s t) ?_
 simp only[SS,Int.ofNat_le]
 refine⟨fun h=>⟨by omega, ?_⟩,fun h=> ?_⟩
 ·rw[Bool.eq_iff_iff,decide_eq_true_eq,List.isPrefixOf_iff_prefix,List.prefix_iff_eq_take]
  exact eq_comm
 ·rw[eq_comm,<- Bool.not_eq_true,List.isPrefixOf_iff_prefix]
  exact fun hp=>h hp.length_le
theorem ZgK (s:LU) (c:Int):gP (ctr libT) Z8x Z7i [dS s,dU c]=(Jm (cut Z7i 0) { tm:=[(0,dS s),(1,dU c)],ob:=[] }:Tr):=by kernel_rfl
def ZfR (s:LU) (c:Int):St:=⟨[(0,.str s),(1,.int .u8 c)],[]⟩
theorem Z6T (s:LU) (c:Int):let A:=(↑(List.length s):Int);let B:=Rt (dS s) [];let C:=cut Z7i 0;gH (ctr libT) 0 true Z8x C (ZfR s c)=(brT (decide ((0:Int)<A)) (Ow ((0:Int)<=(0:Int)/\(0:Int)<A) (brT (decide ((↑(UInt8.toNat (List.getD s 0 (0:UInt8))):Int)=c)) (Ow ((0:Int)<=(1:Int)/\(1:Int)<=A/\A<=A) (Jm C { tm:=[(0,dS (List.drop 1 (List.take (Int.toNat A) s))),(1,dU c)],ob:=[] })) B)) B:Tr):=by intro A B C;kernel_rfl
theorem Zcs (c:UInt8): ∀ (s:LU),At Tryz.prog 0 (cut Z7i 0) (ZfR s c.toNat) (FinQ true 0 Z8x fun r _=>r= .str (s.dropWhile (· == c)))
 | []=>by
  refine At.tree (Z3 Z2 Z0) (Z6T [] c.toNat) ?_
  simp[Qt,Zh,Ze]
 | b::r=>by
  refine At.tree (Z3 Z2 Z0) (Z6T (b::r) c.toNat) ?_
  simp only[SS,List.length_cons,List.getD_cons_zero]
  refine⟨fun _=>⟨by omega,fun h=>⟨by omega, ?_⟩,fun h=> ?_⟩,fun h=>by omega⟩
  ·have hb:b=c:=UInt8.toNat_inj.1 (by omega)
   have:=Zcs c r
   simp only[List.dropWhile_cons,hb,beq_self_eq_true,if_true]
   simpa [Int.toNat_natCast,ZfR] using this
  ·have hb:b≠c:=fun h'=>h (by rw[h'])
   simp[List.dropWhile_cons,hb]
theorem Zib (s:LU) (c:UInt8):FK 126 [.str s,.int .u8 c.toNat] (.str (s.dropWhile (· == c))) :=
 FnOK.tree Z4 ZkZ (Z3 Z2 Z0) (ZgK s c.toNat) (Zcs c s)
def strP:PT:=fun f xs=>if f=126 then match xs with
  | [.str s,.int .u8 c]=>some (.ok (0<=c/\c<256) (.str (s.dropWhile (· == UInt8.ofNat c.toNat))) [])
  | _=>none
 else if f=125 then match xs with
  | [.str s,.str t]=>some (.ok True (.bool (t.isPrefixOf s)) [])
  | _=>none
 else none
theorem Z8b:strP.OK:=by
 intro f xs rt h
 unfold strP at h
 split at h
 ·rename_i hf; subst hf
  split at h
  ·rename_i s c
   cases h
   intro hc
   have:=Zib s (UInt8.ofNat c.toNat)
   rwa [show ((UInt8.ofNat c.toNat).toNat:Int)=c by rw[UInt8.toNat_ofNat_of_lt' (by show _<256; omega)]; omega] at this
  ·cases h
 split at h
 ·rename_i hf; subst hf
  split at h
  ·cases h; exact fun _=>ZfT _ _
  ·cases h
 ·cases h
theorem Za6 (s:LU):gP (ctr strP) rs91 sc91 [dS s,dS [(95:UInt8)]]=(brT (decide (s=[])) (Rt (dS s) []) (Ow ((0:Int)<=(0:Int)/\(0:Int)<(1:Int)) (Ow ((0:Int)<=(0:Int)/\(0:Int)<(1:Int)) (Ow ((0:Int)<=(95:Int)/\(95:Int)<(256:Int)) (Rt (dS (List.dropWhile (fun x=>x == UInt8.ofNat 95) s)) [])))):Tr):=by kernel_rfl
theorem ZaR (s:LU):FK 91 [.str s,.str [95]] (.str (s.dropWhile Lx.isUnd)):=by
 refine FnOK.tree Z4 fp91 (Z3 Z8b Z0) (Za6 s) ?_
 simp only[SS]
 refine⟨fun h=>by rw[h]; rfl,fun h=>⟨by decide,by decide,by decide,rfl⟩⟩
theorem Zcf (s t:LU):let A:=(↑(List.length s):Int);let B:=(↑(List.length t):Int);gP (ctr strP) rs90 sc90 [dS s,dS t]=(Ow True (brT (!List.isPrefixOf t s) (Rt (D.tuple [dS s,dB false]) []) (Ow ((0:Int)<=B/\B<=A/\A<=A) (Rt (D.tuple [dS (List.drop (Int.toNat B) (List.take (Int.toNat A) s)),dB true]) []))):Tr):=by intro A B;kernel_rfl
theorem Zgk (s t:LU):FK 90 [.str s,.str t] (if t.isPrefixOf s=true then .tuple [.str (s.drop t.length),.bool true] else .tuple [.str s,.bool false]):=by
 refine FnOK.tree Z4 fp90 (Z3 Z8b Z0) (Zcf s t) ?_
 simp only[SS]
 refine⟨fun h=>by rw[if_neg (by simp[h])],fun h=> ?_⟩
 have hl:=(List.isPrefixOf_iff_prefix.1 h).length_le
 rw[if_pos h]
 exact⟨by omega,rfl⟩
def Z9D:PT:=fun f xs=>if f=90 then match xs with
  | [.str s,.str t]=>some (.br (t.isPrefixOf s) (.ok True (.tuple [.str (s.drop t.length),.bool true]) []) (.ok True (.tuple [.str s,.bool false]) []))
  | _=>none
 else if f=91 then match xs with
  | [.str s,.str [95]]=>some (.ok True (.str (s.dropWhile Lx.isUnd)) [])
  | _=>none
 else none
theorem Z3Q:Z9D.OK:=by
 intro f xs rt h
 unfold Z9D at h
 split at h
 ·rename_i hf; subst hf
  split at h
  ·rename_i s t
   cases h
   have:=Zgk s t
   cases hp:t.isPrefixOf s <;> (rw[hp] at this; exact fun _=>this)
  ·cases h
 split at h
 ·rename_i hf; subst hf
  split at h
  ·cases h; exact fun _=>ZaR _
  ·cases h
 ·cases h
theorem Za5 (s t:LU):gP (ctr Z9D) rs53 sc53 [dS s,dS t]=(brT (List.isPrefixOf t s) (Ow True (Rt (D.tuple [dS (List.drop (List.length t) s),dB true]) [])) (Ow True (Rt (D.tuple [dS s,dB false]) [])):Tr):=by kernel_rfl
theorem ZbR (s t:LU):FK 53 [.str s,.str t] (if t.isPrefixOf s=true then .tuple [.str (s.drop t.length),.bool true] else .tuple [.str s,.bool false]):=by
 refine FnOK.tree Z4 fp53 (Z3 Z3Q Z0) (Za5 s t) ?_
 simp only[SS]
 exact⟨fun h=>by rw[if_pos h],fun h=>by rw[if_neg (by simp[h])]⟩
def wqQ:QT:=bytQ.or allQ
theorem Zcn:wqQ.OK:=QT.or_ok Z0J Za3
noncomputable def Zds (s:LU):Tr:=Ow True (brT (!decide (List.dropWhile Lx.isUnd s=[])) (Ow ((0:Int)<=(0:Int)/\(0:Int)<(↑(List.length (List.dropWhile Lx.isUnd s)):Int)) (Ow ((0:Int)<=(↑(UInt8.toNat (List.getD (List.dropWhile Lx.isUnd s) 0 (0:UInt8))):Int)/\(↑(UInt8.toNat (List.getD (List.dropWhile Lx.isUnd s) 0 (0:UInt8))):Int)<(256:Int)) (brT (tb Lx.isLow (↑(UInt8.toNat (List.getD (List.dropWhile Lx.isUnd s) 0 (0:UInt8))):Int)) (Ow (List.length (List.dropWhile Lx.isUnd s)<=4611686018427387904) (brT (List.all (List.dropWhile Lx.isUnd s) Lx.isName) (Rt (dB (decide ((↑(List.length s):Int)<=(32:Int)))) []) (Rt (dB false) []))) (Rt (dB false) [])))) (Rt (dB false) []))
theorem Zaz (s:LU):gC (ctr Z9D wqQ) 0 rs54 sc54 [] [dS s,dF 110 [] []] [] []=Zds s:=by kernel_rfl
noncomputable def Zdr (s:LU):Tr:=Ow True (brT (!decide (List.dropWhile Lx.isUnd s=[])) (Ow ((0:Int)<=(0:Int)/\(0:Int)<(↑(List.length (List.dropWhile Lx.isUnd s)):Int)) (Ow ((0:Int)<=(↑(UInt8.toNat (List.getD (List.dropWhile Lx.isUnd s) 0 (0:UInt8))):Int)/\(↑(UInt8.toNat (List.getD (List.dropWhile Lx.isUnd s) 0 (0:UInt8))):Int)<(256:Int)) (brT (tb Lx.isUp (↑(UInt8.toNat (List.getD (List.dropWhile Lx.isUnd s) 0 (0:UInt8))):Int)) (Ow (List.length (List.dropWhile Lx.isUnd s)<=4611686018427387904) (brT (List.all (List.dropWhile Lx.isUnd s) Lx.isName) (Rt (dB (decide ((↑(List.length s):Int)<=(32:Int)))) []) (Rt (dB false) []))) (Rt (dB false) [])))) (Rt (dB false) []))
theorem Zay (s:LU):gC (ctr Z9D wqQ) 0 rs54 sc54 [] [dS s,dF 55 [] []] [] []=Zdr s:=by kernel_rfl
theorem Z9A {p:UInt8->Bool} {s:LU} (h: ¬ s.dropWhile p=[]): ∃ b r,s.dropWhile p=b::r:=by
 cases hd:s.dropWhile p with
 | nil=>exact (h hd).elim
 | cons b r=>exact⟨b,r,rfl⟩
theorem ZaI (s:LU) (hl:s.length<=4611686018427387904):CF 54 [.str s,.func (.func 110) [] []] [] fun r ob=>r= .bool (Lx.wordB Lx.isLow s)/\ob=[]:=by
 refine CallL.tree Z4 fp54 (Z3 Z3Q Zcn) (Zaz s) ?_
 unfold Zds Lx.wordB
 simp only[SS]
 refine⟨fun h=> ?_,fun h=>by rw[h]⟩
 obtain⟨b,r,hd⟩:=Z9A h
 have h1:=(List.dropWhile_sublist (l:=s) Lx.isUnd).length_le
 rw[hd] at h1 ⊢
 simp only[List.length_cons,List.getD_cons_zero,Z5X]
 rw[List.length_cons] at h1
 exact⟨by omega,⟨by omega,by have:=b.toNat_lt; omega⟩,fun h2=>⟨by omega,fun h3=>by simp only[h2,h3,Bool.true_and,Int.ofNat_le,show (32:Int)=((32:Nat):Int) from rfl],fun h3=>by simp only[h3,Bool.and_false,Bool.false_and]⟩,fun h2=>by simp only[h2,Bool.false_and]⟩
theorem ZaG (s:LU) (hl:s.length<=4611686018427387904):CF 54 [.str s,.func (.func 55) [] []] [] fun r ob=>r= .bool (Lx.wordB Lx.isUp s)/\ob=[]:=by
 refine CallL.tree Z4 fp54 (Z3 Z3Q Zcn) (Zay s) ?_
 unfold Zdr Lx.wordB
 simp only[SS]
 refine⟨fun h=> ?_,fun h=>by rw[h]⟩
 obtain⟨b,r,hd⟩:=Z9A h
 have h1:=(List.dropWhile_sublist (l:=s) Lx.isUnd).length_le
 rw[hd] at h1 ⊢
 simp only[List.length_cons,List.getD_cons_zero,Z5X]
 rw[List.length_cons] at h1
 exact⟨by omega,⟨by omega,by have:=b.toNat_lt; omega⟩,fun h2=>⟨by omega,fun h3=>by simp only[h2,h3,Bool.true_and,Int.ofNat_le,show (32:Int)=((32:Nat):Int) from rfl],fun h3=>by simp only[h3,Bool.and_false,Bool.false_and]⟩,fun h2=>by simp only[h2,Bool.false_and]⟩
def ZdD:QT:=fun d xs ob=>match d,xs,ob with
 | .func (.func f) [] [],[.str s,.func (.func g) [] []],[]=>if f=54 then (if g=110 then some (.ok (s.length<=4611686018427387904) (.bool (Lx.wordB Lx.isLow s)) [])
   else if g=55 then some (.ok (s.length<=4611686018427387904) (.bool (Lx.wordB Lx.isUp s)) []) else none) else none
 | _,_,_=>none
theorem ZaH:ZdD.OK:=by
 intro d xs ob rt h
 unfold ZdD at h
 split at h
 ·split at h
  ·rename_i hf
   subst hf
   split at h
   ·rename_i hg; subst hg; cases h; exact fun hl=>ZaI _ hl
   split at h
   ·rename_i hg; subst hg; cases h; exact fun hl=>ZaG _ hl
   ·cases h
  ·cases h
 ·cases h
def Zgl:PT:=fun f xs=>if f=53 then match xs with
  | [.str s,.str t]=>some (.br (t.isPrefixOf s) (.ok True (.tuple [.str (s.drop t.length),.bool true]) []) (.ok True (.tuple [.str s,.bool false]) []))
  | _=>none
 else none
theorem ZbS:Zgl.OK:=by
 intro f xs rt h
 unfold Zgl at h
 split at h
 ·rename_i hf; subst hf
  split at h
  ·rename_i s t
   cases h
   have:=ZbR s t
   cases hp:t.isPrefixOf s <;> (rw[hp] at this; exact fun _=>this)
  ·cases h
 ·cases h
def wq2:QT:=ZdD.or allQ
theorem Zco:wq2.OK:=QT.or_ok ZaH Za3
noncomputable def PSym (s:LU):Tr:=Ow (List.length s<=4611686018427387904) (brT (Lx.wordB Lx.isLow s) (Rt (D.bool !decide (s=[(110:UInt8),(111:UInt8),(116:UInt8)])) []) (Rt (dB false) []))
theorem ZgR (s:LU):gP (ctr libT wq2) rs77 sc77 [dS s]=PSym s:=by kernel_rfl
noncomputable def PVar (s:LU):Tr:=brT (List.isPrefixOf [(95:UInt8)] s) (Ow True (Ow (List.length s<=4611686018427387904) (brT (Lx.wordB Lx.isUp s) (Rt (dB true) []) (Ow (List.length (List.drop 1 s)<=4611686018427387904) (brT (List.all (List.drop 1 s) Lx.isDig) (Rt (dB (decide ((↑(List.length s):Int)<=(32:Int)))) []) (Rt (dB false) [])))))) (Ow True (Ow (List.length s<=4611686018427387904) (brT (Lx.wordB Lx.isUp s) (Rt (dB true) []) (Rt (dB false) []))))
theorem ZgO (s:LU):gP (ctr Zgl wq2) rs26 sc26 [dS s]=PVar s:=by kernel_rfl
theorem Z43 (s:LU) (hl:s.length<=4611686018427387904):FK 77 [.str s] (.bool (Lx.symbolB s)):=by
 refine FnOK.tree Z4 fp77 (Z3 Z2 Zco) (ZgR s) ?_
 unfold PSym Lx.symbolB
 simp only[SS]
 refine⟨hl,fun h=> ?_,fun h=>by simp only[h,Bool.false_and]⟩
 simp only[h,Bool.true_and,Lx.notS]
 exact (decide_not (p:=s=[110,111,116])).symm
theorem Z1P (s:LU) (hl:s.length<=4611686018427387904):FK 26 [.str s] (.bool (Lx.variableB s)):=by
 refine FnOK.tree Z4 fp26 (Z3 ZbS Zco) (ZgO s) ?_
 unfold PVar Lx.variableB
 simp only[SS]
 have hd:(s.drop 1).length<=s.length:=by simp
 have h0:List.isPrefixOf [95] s=true-> ∃ r,s=95::r:=fun h=>by
  obtain⟨t,ht⟩:=List.isPrefixOf_iff_prefix.1 h
  exact⟨t,ht.symm⟩
 have h0':List.isPrefixOf [95] s=false-> ∀ r,s≠95::r:=fun h r hr=>by rw[hr] at h; simp[List.isPrefixOf] at h
 refine⟨fun h=>⟨hl,fun hw=>by simp only[hw,Bool.true_or],fun hw=> ?_⟩,fun h=>⟨hl,fun hw=>by simp only[hw,Bool.true_or],fun hw=> ?_⟩⟩
 ·obtain⟨r,rfl⟩:=h0 h
  simp only[List.length_cons,List.length_nil,List.drop_succ_cons,List.drop_zero] at hd hl ⊢
  exact⟨by omega,fun ha=>by simp only[hw,ha,Bool.false_or,Bool.true_and,Int.ofNat_le,show (32:Int)=((32:Nat):Int) from rfl],fun ha=>by simp only[hw,ha,Bool.false_or,Bool.false_and]⟩
 ·simp only[hw,Bool.false_or]
  split
  ·rename_i r; exact absurd rfl (h0' h r)
  ·rfl
end Go.Proofs.YtobgkdlghljdlaaGreatDoor
