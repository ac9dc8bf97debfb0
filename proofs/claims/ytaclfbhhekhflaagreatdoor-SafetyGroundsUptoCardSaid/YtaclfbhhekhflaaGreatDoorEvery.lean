/- Own work: a layer over the kit: plain data,a walk over it,its soundness. -/
import Derived.Test.YtaclfbhhekhflaaGreatDoorLibT
import Derived.Test.YtaclfbhhekhflaaGreatDoorSx8
set_option linter.all false
set_option maxRecDepth 100000
/- every,subterms,visit. -/
open Go.Sx.Lx (Z2o Z83 Z19 Z0R Z0l Z2y Qm Zk)
noncomputable section
namespace Go.Proofs.YtaclfbhhekhflaaGreatDoor
open Go.Sx
def asmV (r:D):QT:=λd xs ob=>match ob with
 |[]=>some (.ok (CallL Tryz.prog d xs [] λr0 ob0=>r0=r/\ob0=[]) r [])
 |_=>none
theorem ZlT (r:D):(asmV r).OK:=by
 intro d xs ob rt h;unfold asmV at h;split at h
 ·cases h;exactλhp=>hp
 ·cases h
theorem Z8N (k n:Int) (s:LU) (a:LD):let A:=[dU k,dI n,dS s,dL a []];gC (ctr libT) 0 rs83 sc83 [] [dA A] [] []=(Rt (dF 113 [] [dP 0 0]) [(0,oC A)]:Tr):=by intro A;kernel_rfl
def subQ:QT:=λd xs ob=>match d,xs,ob with
 |.func (.func f) [] [],[.agg [.int .u8 k,.int .i64 n,.str s,.slice a []]],[]=>if f=83 then some (.ok True (.func (.func 113) [] [.ptr 0 0]) [(0,.cells [.int .u8 k,.int .i64 n,.str s,.slice a []])]) else none
 |_,_,_=>none
theorem Z7y:subQ.OK:=by
 intro d xs ob rt h;unfold subQ at h;split at h
 ·split at h
  ·rename_i hf;subst hf;cases h;intro _;exact CallL.tree Z3 fp83 (Z2 Z1 Z0) (Z8N _ _ _ _) ⟨rfl,rfl⟩
  ·cases h
 ·cases h
def Zd4:List Nat:=[7,6,4,3,2,0,1]
abbrev tC (k n:Int) (s:LU) (a:LD):List D:=[.int .u8 k,.int .i64 n,.str s,.slice a []]
def dsEv (k n:Int) (s:LU) (a:LD) (f:FuncId) (t0 q u v:Nat):List D:=[.func (.func 113) [] [.ptr t0 0],.agg (tC k n s a),.ptr q 0,.ptr u 0,.ptr v 0,.agg (tC k n s a),.func (.func f) [] []]
def ZpU (st:LoopState) (pend:Option Code) (ds:List D):Ob:=.gen (.loop st pend #[8] (sc55.rngA 0) (sc55.rngB 0) 13 Zd4) ds
def obEv (k n:Int) (s:LU) (a:LD) (f:FuncId) (st:LoopState) (pend:Option Code) (b:Bool):Obs:=[(0,.cells (tC k n s a)),(1,ZpU st pend (dsEv k n s a f 0 2 3 4)),(2,.cells [.bool b]),(3,.cells [.func (.func f) [] []]),(4,.cells (tC k n s a))]
def obVi (k n:Int) (s:LU) (a:LD) (f:FuncId) (st:LoopState) (pend:Option Code):Obs:=[(0,ZpU st pend (dsEv k n s a f 1 2 3 4)),(1,.cells (tC k n s a)),(2,.cells [.bool false]),(3,.cells [.func (.func f) [] []]),(4,.cells (tC k n s a))]
def ZrH:Obs->Obs
 |(i,.gen (.loop _ _ ps a b N ks) ds)::r=>(i,.gen (.loop .done (some .ret) ps a b N ks) ds)::r
 |ob=>ob
def asmB (b:Bool):QT:=λd xs ob=>some (.br b (.ok (CallL Tryz.prog d xs ob λr o=>r=.bool true/\o=ob) (.bool true) ob) (.ok (CallL Tryz.prog d xs ob λr o=>r=.bool false/\o=ZrH ob) (.bool false) (ZrH ob)))
theorem Z64 (b:Bool):(asmB b).OK:=by
 intro d xs ob rt h;cases h;cases b
 ·exactλhp=>hp
 ·exactλhp=>hp
theorem Zte (d nx:Int) (e:LU) (c:LD) (k n:Int) (s:LU) (a:LD) (f:FuncId) (b:Bool):let A:=[dF 113 [] [dP 1 0],dA [dU k,dI n,dS s,dL a []],dP 2 0,dP 3 0,dP 4 0,dA [dU k,dI n,dS s,dL a []],dF f [] []];let B:=[dU k,dI n,dS s,dL a []];let C:=(3,oC [dF f [] []]);let E:=(2,oC [dB false]);let F:=[dA [dU d,dI nx,dS e,dL c []]];let G:=SC.rngA sc55 0;let H:=SC.rngB sc55 0;let I:=some Code.ret;gC (ctr libT (asmB b)) 5 Z2G Z1I [] [dA (tC d nx e c),D.yld 0] [] (obVi k n s a f LoopState.ready none)=(brT b (Ow (CallL Tryz.prog (D.yld 0) F [(0,gL .ready none #[8] sc55 0 13 [7,6,4,3,2,0,1] A),(1,oC B),E,C,(4,oC B)] λr o=>r=dB true/\o=[(0,gL .ready none #[8] sc55 0 13 [7,6,4,3,2,0,1] A),(1,oC B),E,C,(4,oC B)]) (Jm (cut Z1I 0) {tm:=[(1,D.yld 0),(12,dL c []),(13,dI (↑(List.length c):Int)),(14,dI 0)],ob:=[(0,gL .ready none #[8] sc55 0 13 [7,6,4,3,2,0,1] A),(1,oC B),E,C,(4,oC B)]})) (Ow (CallL Tryz.prog (D.yld 0) F [(0,gL .ready none #[8] sc55 0 13 [7,6,4,3,2,0,1] A),(1,oC B),E,C,(4,oC B)] λr o=>r=dB false/\o=[(0,Ob.gen (Gen.loop LoopState.done I #[8] G H 13 [7,6,4,3,2,0,1]) A),(1,oC B),E,C,(4,oC B)]) (Rt (dB false) [(0,Ob.gen (Gen.loop LoopState.done I #[8] G H 13 [7,6,4,3,2,0,1]) A),(1,oC B),E,C,(4,oC B)])):Tr):=by intro A B C E F G H I;kernel_rfl
theorem Zsi (d nx:Int) (e:LU) (c:LD) (k n:Int) (s:LU) (a:LD) (f:FuncId) (b:Bool):let A:=[dU k,dI n,dS s,dL a []];let B:=[dF 113 [] [dP 1 0],dA A,dP 2 0,dP 3 0,dP 4 0,dA A,dF f [] []];let C:=(3,oC [dF f [] []]);let E:=(2,oC [dB false]);let F:=dsEv k n s a f 1 2 3 4;let G:=SC.rngA sc55 0;let H:=SC.rngB sc55 0;let I:=tC k n s a;yldT Tryz.prog (ctr libT (asmV (dB b))) 5 0 13 #[8] G H Zd4 F 2000 {tm:=putP (List.zip [8] [dA (tC d nx e c)]) (List.zip Zd4 F),ob:=[(1,oC I),E,C,(4,oC I)]}=(Ow (CallL Tryz.prog (dF f [] []) [dA [dU d,dI nx,dS e,dL c []]] [] λr0 ob0=>r0=dB b/\ob0=[]) (brT (!b) (Rt (dB false) [(0,Ob.gen (Gen.loop LoopState.done (some Code.ret) #[8] G H 13 [7,6,4,3,2,0,1]) B),(1,oC A),E,C,(4,oC A)]) (Rt (dB true) [(0,gL .ready none #[8] sc55 0 13 [7,6,4,3,2,0,1] B),(1,oC A),E,C,(4,oC A)])):Tr):=by intro A B C E F G H I;kernel_rfl
def hdVi (a:LD) (m i:Int) (ob:Obs):St:=⟨[(1,.yld 0),(12,.slice a []),(13,.int .i64 m),(14,.int .i64 i)],ob⟩
theorem Zf2 (c:LD) (m i e nx:Int) (g:LU) (d:LD) (k n:Int) (s:LU) (a:LD) (f:FuncId) (b:Bool):let A:=[dF 113 [] [dP 1 0],dA [dU k,dI n,dS s,dL a []],dP 2 0,dP 3 0,dP 4 0,dA [dU k,dI n,dS s,dL a []],dF f [] []];let B:=[dU k,dI n,dS s,dL a []];let C:=(3,oC [dF f [] []]);let E:=(2,oC [dB false]);let F:=[dU e,dI nx,dS g,dL d []];let G:=SC.rngA sc55 0;let H:=SC.rngB sc55 0;let I:=some Code.ret;let J:=[dA F,D.yld 0];let K:=cut Z1I 0;let L:=(i+(1:Int));gH (ctr libT (asmB b) λx j=>tC e nx g d) 5 false Z2G K (hdVi c m i (obVi k n s a f LoopState.ready none))=(brT (decide (i<m)) (Ow ((0:Int)<=i/\c[Int.toNat i]? = some F) (brT b (Ow (CF 114 J [(0,gL .ready none #[8] sc55 0 13 [7,6,4,3,2,0,1] A),(1,oC B),E,C,(4,oC B)] λr o=>r=dB true/\o=[(0,gL .ready none #[8] sc55 0 13 [7,6,4,3,2,0,1] A),(1,oC B),E,C,(4,oC B)]) (I8 L (Jm K {tm:=[(1,D.yld 0),(12,dL c []),(13,dI m),(14,dI L)],ob:=[(0,gL .ready none #[8] sc55 0 13 [7,6,4,3,2,0,1] A),(1,oC B),E,C,(4,oC B)]}))) (Ow (CF 114 J [(0,gL .ready none #[8] sc55 0 13 [7,6,4,3,2,0,1] A),(1,oC B),E,C,(4,oC B)] λr o=>r=dB false/\o=[(0,Ob.gen (Gen.loop LoopState.done I #[8] G H 13 [7,6,4,3,2,0,1]) A),(1,oC B),E,C,(4,oC B)]) (Rt (dB false) [(0,Ob.gen (Gen.loop LoopState.done I #[8] G H 13 [7,6,4,3,2,0,1]) A),(1,oC B),E,C,(4,oC B)])))) (Rt (dB true) [(0,gL .ready none #[8] sc55 0 13 [7,6,4,3,2,0,1] A),(1,oC B),E,C,(4,oC B)]):Tr):=by intro A B C E F G H I J K L;kernel_rfl
theorem Znw (k n:Int) (s:LU) (a:LD) (f:FuncId) (b:Bool):let A:=[dU k,dI n,dS s,dL a []];let B:=[dF 113 [] [dP 1 0],dA A,dP 2 0,dP 3 0,dP 4 0,dA A,dF f [] []];let C:=(3,oC [dF f [] []]);let E:=(2,oC [dB false]);let F:=[dF 113 [] [dP 0 0],dA A,dP 2 0,dP 3 0,dP 4 0,dA A,dF f [] []];let G:=SC.rngA sc55 0;let H:=SC.rngB sc55 0;let I:=some Code.ret;let J:=[dA A,D.yld 0];let K:=D.tuple [];gC (ctr libT (asmB b)) 5 ZfM ZfF [] [D.yld 1] [dP 0 0] (obEv k n s a f LoopState.ready none false)=(brT b (Ow (CF 114 J [(0,gL .ready none #[8] sc55 0 13 [7,6,4,3,2,0,1] B),(1,oC A),E,C,(4,oC A)] λr o=>r=dB true/\o=[(0,gL .ready none #[8] sc55 0 13 [7,6,4,3,2,0,1] B),(1,oC A),E,C,(4,oC A)]) (Rt K [(0,oC A),(1,gL .ready none #[8] sc55 0 13 [7,6,4,3,2,0,1] F),E,C,(4,oC A)])) (Ow (CF 114 J [(0,gL .ready none #[8] sc55 0 13 [7,6,4,3,2,0,1] B),(1,oC A),E,C,(4,oC A)] λr o=>r=dB false/\o=[(0,Ob.gen (Gen.loop LoopState.done I #[8] G H 13 [7,6,4,3,2,0,1]) B),(1,oC A),E,C,(4,oC A)]) (Rt K [(0,oC A),(1,Ob.gen (Gen.loop LoopState.done I #[8] G H 13 [7,6,4,3,2,0,1]) F),E,C,(4,oC A)])):Tr):=by intro A B C E F G H I J K;kernel_rfl
def asmI (b:Bool):QT:=λd xs ob=>match d,ob with
 |.func (.func _) [] [.ptr 0 0],(0,c)::(1,.gen (.loop _ _ ps a e N ks) ds)::r=>some (.br b (.ok (CallL Tryz.prog d xs ob λr o=>r=.tuple []/\o=ob) (.tuple []) ob) (.ok (CallL Tryz.prog d xs ob λr0 o=>r0=.tuple []/\o=(0,c)::(1,.gen (.loop .done (some .ret) ps a e N ks) ds)::r) (.tuple []) ((0,c)::(1,.gen (.loop .done (some .ret) ps a e N ks) ds)::r)))
 |_,_=>none
theorem ZlV (b:Bool):(asmI b).OK:=by
 intro d xs ob rt h;unfold asmI at h;split at h
 ·cases h;cases b
  ·exactλhp=>hp
  ·exactλhp=>hp
 ·cases h
theorem ZtB (k n:Int) (s:LU) (a:LD) (f:FuncId) (b:Bool):let A:=SC.block 1 (SC.seq (SC.reg [so 9 (AOp.load false 1) [xt 3],so 10 (AOp.load true 4) [xt 5],SOp.cd (some 11) none (xt 9) [xt 10],so 12 (AOp.un UnOp.not) [xt 11]]) (SC.cond (xt 12) (SC.seq (SC.reg [SOp.st none (SK.c 1) (xt 4) (xc (dB false))]) SC.ret) SC.skip));let B:=[dU k,dI n,dS s,dL a []];let C:=SC.reg [so 5 (AOp.alloc [dU 0,dI 0,dS [],D.nils]) [],SOp.st none (SK.c 4) (xt 5) (xt 8)];let E:=[dF 113 [] [dP 0 0],dA B,dP 2 0,dP 3 0,dP 4 0,dA B,dF f [] []];let F:=(3,oC [dF f [] []]);let G:=(2,oC [dB false]);let H:=dF 113 [] [dP 0 0];gC (ctr libT (QT.or subQ (asmI b))) 0 rs55 sc55 [] [dA (tC k n s a),dF f [] []] [] []=(Ow True (brT b (Ow (CallL Tryz.prog H [D.yld 1] [(0,oC B),(1,Ob.gen (Gen.loop LoopState.ready none #[8] C A 13 [7,6,4,3,2,0,1]) E),G,F,(4,oC B)] λr o=>r=D.tuple []/\o=[(0,oC B),(1,Ob.gen (Gen.loop LoopState.ready none #[8] C A 13 [7,6,4,3,2,0,1]) E),G,F,(4,oC B)]) (Rt (dB true) [])) (Ow (CallL Tryz.prog H [D.yld 1] [(0,oC B),(1,Ob.gen (Gen.loop LoopState.ready none #[8] C A 13 [7,6,4,3,2,0,1]) E),G,F,(4,oC B)] λr0 o=>r0=D.tuple []/\o=[(0,oC B),(1,Ob.gen (Gen.loop LoopState.done (some Code.ret) #[8] C A 13 [7,6,4,3,2,0,1]) E),G,F,(4,oC B)]) (Rt (dB false) []))):Tr):=by intro A B C E F G H;kernel_rfl
section
variable {h:Tm->Bool} {f:FuncId} (H: ∀ x:Tm,x.wf 281474976710656->CallL Tryz.prog (.func (.func f) [] []) [.agg x.cells] [] λr ob=>r=.bool (h x)/\ob=[])
include H
def obRv (k n:Int) (s:LU) (a:LD) (f:FuncId) (b:Bool):Obs:=match b with
 |true=>obVi k n s a f .ready none
 |false=>obVi k n s a f .done (some .ret)
theorem ZiC (k n:Int) (s:LU) (a:LD) (x:Tm) (hx:x.wf 281474976710656):CallL Tryz.prog (.yld 0) [.agg x.cells] (obVi k n s a f .ready none) λr ob=>r=.bool (h x)/\ob=obRv k n s a f (h x):=by
 have hH:=H x hx;generalize h x=b at hH ⊢;obtain⟨e,nx,g,d⟩:=x;refine CallL.yldT Z3 (Z2 Z1 (ZlT (.bool b))) rfl (Zsi e nx g (Tm.cellsL d) k n s a f b) ?_;rw[Z4,Zs,Z7,Z7];refine⟨hH,λc=>?_,λc=>?_⟩
 ·cases b
  ·exact⟨rfl,rfl⟩
  ·cases c
 ·cases b
  ·cases c
  ·exact⟨rfl,rfl⟩
def VisC (h:Tm->Bool) (f:FuncId) (k n:Int) (s:LU) (a:LD) (x:Tm):Prop:=CF 114 [.agg x.cells,.yld 0] (obVi k n s a f .ready none) λr ob=>r=.bool (x.all h)/\ob=obRv k n s a f (x.all h)
omit H in
theorem ZnZ (k n:Int) (s:LU) (a:LD) (l:List Tm) (hl:l.length<=281474976710656) (HV: ∀ x∈l,VisC h f k n s a x): ∀ (m i:Nat),l.length-i=m->i<=l.length →
  At Tryz.prog 5 (cut Z1I 0) (hdVi (Tm.cellsL l) l.length i (obVi k n s a f .ready none)) (FinQ false 5 Z2G λr ob=>r=.bool (Tm.allL h (l.drop i))/\ob=obRv k n s a f (Tm.allL h (l.drop i))):=by
 intro m;induction m with
 |zero =>
  intro i hm hi;refine At.tree (Z2 Z1 (Z64 true)) (Zf2 (Tm.cellsL l) l.length i 0 0 [] [] k n s a f true) ?_;rw[List.drop_eq_nil_of_le (by omega)];rw[Zs];refine⟨λh=>?_,λ_=>?_⟩
  ·have:=of_decide_eq_true h;omega
  ·rw[Z7];exact⟨rfl,rfl⟩
 |succ m j =>
  intro i hm hi;have h1:i<l.length:=by omega
  have hx:(Tm.cellsL l)[i]? = some l[i].cells:=by rw[Zn];simp[h1]
  have c:=HV _ (List.getElem_mem h1);have g:l.drop i=l[i]::l.drop (i+1):=List.drop_eq_getElem_cons h1;have e:=j (i+1) (by omega) (by omega);rw[g];simp only[Tm.allL];unfold VisC at c;generalize Tm.all h l[i]=b at c ⊢;generalize l[i]=x at hx c;obtain⟨o,nx,p,d⟩:=x;refine At.tree (Z2 Z1 (Z64 b)) (Zf2 (Tm.cellsL l) l.length i o nx p (Tm.cellsL d) k n s a f b) ?_;rw[Zs];refine⟨λ_=>?_,λh=>?_⟩
  ·rw[Z4,Int.toNat_natCast];refine⟨⟨by omega,hx⟩,?_⟩;cases b
   ·rw[Zx,Z4,Z7];exact⟨c,rfl,rfl⟩
   ·rw[ZL,Z4,Z4,Z6,Bool.true_and];exact⟨c,by omega,e⟩
  ·have:=of_decide_eq_false h;omega
theorem Zhj (k n:Int) (s:LU) (a:LD): ∀ x:Tm,x.wf 281474976710656->VisC h f k n s a x
 |.mk d nx e l,hx=>by
  have c:=ZiC H k n s a (.mk d nx e l) hx;simp only[Tm.wf] at hx;obtain⟨hk,i,j,hs,hl,m⟩:=hx;have g:=ZnZ (h:=h) (f:=f) k n s a l hl (λx hx=>Zhj k n s a x (Qe.1 m x hx)) _ 0 rfl (Nat.zero_le _);unfold VisC;simp only[Tm.all];generalize h (.mk d nx e l)=b at c ⊢;refine CallL.tree Z3 Zgs (Z2 Z1 (Z64 b)) (Zte d nx e (Tm.cellsL l) k n s a f b) ?_;cases b
  ·rw[Zx,Z4,Z7,Bool.false_and];exact⟨c,rfl,rfl⟩
  ·rw[ZL,Z4,Z6,Bool.true_and,Z5];exact⟨c,g⟩
termination_by x=>SizeOf.sizeOf x
decreasing_by
 have:=List.sizeOf_lt_of_mem hx;simp only[Tm.mk.sizeOf_spec];omega
theorem Z5P (x:Tm) (hx:x.wf 281474976710656):CF 55 [.agg x.cells,.func (.func f) [] []] [] λr ob=>r=.bool (x.all h)/\ob=[]:=by
 obtain⟨k,n,s,l⟩:=x;have hv:=Zhj H k n s (Tm.cellsL l) (.mk k n s l) hx;unfold VisC at hv;generalize Tm.all h (.mk k n s l)=b at hv ⊢;have hs:CallL Tryz.prog (.func (.func 113) [] [.ptr 0 0]) [.yld 1] (obEv k n s (Tm.cellsL l) f .ready none false) λr ob=>r=.tuple []/\ob=match b with
   |true=>obEv k n s (Tm.cellsL l) f .ready none false
   |false=>obEv k n s (Tm.cellsL l) f .done (some .ret) false:=by
  refine CallL.tree Z3 Zlj (Z2 Z1 (Z64 b)) (Znw k n s (Tm.cellsL l) f b) ?_;cases b
  ·rw[Zx,Z4,Z7];exact⟨hv,rfl,rfl⟩
  ·rw[ZL,Z4,Z7];exact⟨hv,rfl,rfl⟩
 refine CallL.tree Z3 fp55 (Z2 Z1 (QT.or_ok Z7y (ZlV b))) (ZtB k n s (Tm.cellsL l) f b) ?_;rw[Z4];refine⟨trivial,?_⟩;cases b
 ·rw[Zx,Z4,Z7];exact⟨hs,rfl,rfl⟩
 ·rw[ZL,Z4,Z7];exact⟨hs,rfl,rfl⟩
end
end Go.Proofs.YtaclfbhhekhflaaGreatDoor
/- The words of terms. -/
namespace Go.Proofs.YtaclfbhhekhflaaGreatDoor
open Go.Sx
def tb (p:UInt8->Bool) (b:Int):Bool:=p (UInt8.ofNat b.toNat)
theorem Z8X (p:UInt8->Bool) (b:UInt8):tb p (b.toNat:Int)=p b:=by simp[tb]
theorem Z7v (p:UInt8->Bool) (b:Int) (a:0<=b/\b<256) {q:Int->Bool} (h:(List.range 256).all (λn=>tb p (n:Int) == q (n:Int))=true):tb p b=q b:=by
 have:=List.all_eq_true.1 h b.toNat (List.mem_range.2 (by omega));rw[Int.toNat_of_nonneg a.1] at this;simpa using this
theorem Zme (b:Int):gP (ctr libT) rs80 sc80 [dU b]=(brT (decide ((97:Int)<=b)) (Rt (dB (decide (b<=(122:Int)))) []) (Rt (dB false) []):Tr):=by kernel_rfl
theorem Zmc (b:Int):gP (ctr libT) rs26 sc26 [dU b]=(brT (decide ((65:Int)<=b)) (Rt (dB (decide (b<=(90:Int)))) []) (Rt (dB false) []):Tr):=by kernel_rfl
theorem Zmf (b:Int):gP (ctr libT) rs28 sc28 [dU b]=(brT (decide ((48:Int)<=b)) (Rt (dB (decide (b<=(57:Int)))) []) (Rt (dB false) []):Tr):=by kernel_rfl
theorem ZkQ (b:Int) (a:0<=b/\b<256):FK 80 [.int .u8 b] (.bool (tb Z2o b)):=by
 refine FnOK.tree Z3 fp80 (Z2 Z1 Z0) (Zme b) ?_;rw[Z7v Z2o b a (q:=λb=>decide (97<=b) && decide (b<=122)) (by kernel_rfl)];cases h:decide (97<=b)<;>simp[brT,Z7]
theorem ZiK (b:Int) (a:0<=b/\b<256):FK 26 [.int .u8 b] (.bool (tb Z83 b)):=by
 refine FnOK.tree Z3 fp26 (Z2 Z1 Z0) (Zmc b) ?_;rw[Z7v Z83 b a (q:=λb=>decide (65<=b) && decide (b<=90)) (by kernel_rfl)];cases h:decide (65<=b)<;>simp[brT,Z7]
theorem Zly (b:Int) (a:0<=b/\b<256):FK 28 [.int .u8 b] (.bool (tb Z19 b)):=by
 refine FnOK.tree Z3 fp28 (Z2 Z1 Z0) (Zmf b) ?_;rw[Z7v Z19 b a (q:=λb=>decide (48<=b) && decide (b<=57)) (by kernel_rfl)];cases h:decide (48<=b)<;>simp[brT,Z7]
def bytP:PT:=λf xs=>match xs with
 |[.int .u8 b]=>if f=80 then some (.ok (0<=b/\b<256) (.bool (tb Z2o b)) []) else if f=26 then some (.ok (0<=b/\b<256) (.bool (tb Z83 b)) [])
  else if f=28 then some (.ok (0<=b/\b<256) (.bool (tb Z19 b)) []) else none
 |_=>none
theorem ZlN:bytP.OK:=by
 intro f xs rt h;unfold bytP at h;split at h
 ·split at h
  ·rename_i hf;subst hf;cases h;exactλhp=>ZkQ _ hp
  split at h
  ·rename_i hf;subst hf;cases h;exactλhp=>ZiK _ hp
  split at h
  ·rename_i hf;subst hf;cases h;exactλhp=>Zly _ hp
  ·cases h
 ·cases h
theorem Znl (b:Int):gC (ctr libT) 0 rs80 sc80 [] [dU b] [] []=(brT (decide ((97:Int)<=b)) (Rt (dB (decide (b<=(122:Int)))) []) (Rt (dB false) []):Tr):=by kernel_rfl
theorem Znk (b:Int):gC (ctr libT) 0 rs26 sc26 [] [dU b] [] []=(brT (decide ((65:Int)<=b)) (Rt (dB (decide (b<=(90:Int)))) []) (Rt (dB false) []):Tr):=by kernel_rfl
theorem Znn (b:Int):gC (ctr libT) 0 rs28 sc28 [] [dU b] [] []=(brT (decide ((48:Int)<=b)) (Rt (dB (decide (b<=(57:Int)))) []) (Rt (dB false) []):Tr):=by kernel_rfl
theorem Znm (b:Int):let A:=Rt (dB true) [];let B:=(256:Int);gC (ctr bytP) 0 rs50 sc50 [] [dU b] [] []=(Ow ((0:Int)<=b/\b<B) (brT (tb Z2o b) A (Ow ((0:Int)<=b/\b<B) (brT (tb Z83 b) A (Ow ((0:Int)<=b/\b<B) (brT (tb Z19 b) A (Rt (dB (decide (b=(95:Int)))) [])))))):Tr):=by intro A B;kernel_rfl
theorem ZkR (b:Int) (a:0<=b/\b<256):CF 80 [.int .u8 b] [] λr ob=>r=.bool (tb Z2o b)/\ob=[]:=by
 refine CallL.tree Z3 fp80 (Z2 Z1 Z0) (Znl b) ?_;rw[Z7v Z2o b a (q:=λb=>decide (97<=b) && decide (b<=122)) (by kernel_rfl)];cases h:decide (97<=b)<;>simp[brT,Z7]
theorem ZiL (b:Int) (a:0<=b/\b<256):CF 26 [.int .u8 b] [] λr ob=>r=.bool (tb Z83 b)/\ob=[]:=by
 refine CallL.tree Z3 fp26 (Z2 Z1 Z0) (Znk b) ?_;rw[Z7v Z83 b a (q:=λb=>decide (65<=b) && decide (b<=90)) (by kernel_rfl)];cases h:decide (65<=b)<;>simp[brT,Z7]
theorem Zlz (b:Int) (a:0<=b/\b<256):CF 28 [.int .u8 b] [] λr ob=>r=.bool (tb Z19 b)/\ob=[]:=by
 refine CallL.tree Z3 fp28 (Z2 Z1 Z0) (Znn b) ?_;rw[Z7v Z19 b a (q:=λb=>decide (48<=b) && decide (b<=57)) (by kernel_rfl)];cases h:decide (48<=b)<;>simp[brT,Z7]
theorem Zl6 (b:Int) (a:0<=b/\b<256):CF 50 [.int .u8 b] [] λr ob=>r=.bool (tb Z0R b)/\ob=[]:=by
 refine CallL.tree Z3 fp50 (Z2 ZlN Z0) (Znm b) ?_;rw[Z7v Z0R b a (q:=λb=>tb Z2o b ||tb Z83 b ||tb Z19 b ||decide (b=95)) (by kernel_rfl)];simp only[Zs,Z4,Z7];refine⟨a,λh1=>by simp[h1],λh1=>⟨a,λh2=>by simp[h2],λh2=>⟨a,λc=>by simp[c],λc=>by simp[h1,h2,c]⟩⟩⟩
def bytF (f:FuncId):Option (UInt8->Bool):=if f=80 then some Z2o else if f=26 then some Z83 else if f=28 then some Z19 else if f=50 then some Z0R else none
theorem ZlO {f:FuncId} {p:UInt8->Bool} (h:bytF f=some p) (b:Int) (a:0<=b/\b<256):CallL Tryz.prog (.func (.func f) [] []) [.int .u8 b] [] λr ob=>r=.bool (tb p b)/\ob=[]:=by
 unfold bytF at h;split at h
 ·rename_i hf;subst hf;cases h;exact ZkR b a
 split at h
 ·rename_i hf;subst hf;cases h;exact ZiL b a
 split at h
 ·rename_i hf;subst hf;cases h;exact Zlz b a
 split at h
 ·rename_i hf;subst hf;cases h;exact Zl6 b a
 ·cases h
def bytQ:QT:=λd xs ob=>match d,xs,ob with
 |.func (.func f) [] [],[.int .u8 b],[]=>match bytF f with
  |some p=>some (.ok (0<=b/\b<256) (.bool (tb p b)) [])
  |none=>none
 |_,_,_=>none
theorem Z1Y:bytQ.OK:=by
 intro d xs ob rt h;unfold bytQ at h;split at h
 ·split at h
  ·rename_i p hp;cases h;exactλa=>ZlO hp _ a
  ·cases h
 ·cases h
theorem Zhd (s:LU):gC (ctr libT bytQ) 0 rs27 sc27 [] [dS s,dF 28 [] []] [] []=(Jm (cut sc27 0) {tm:=[(0,dS s),(1,dF 28 [] []),(7,dI (↑(List.length s):Int)),(8,dI 0)],ob:=[]}:Tr):=by kernel_rfl
theorem Zhc (s:LU):gC (ctr libT bytQ) 0 rs27 sc27 [] [dS s,dF 50 [] []] [] []=(Jm (cut sc27 0) {tm:=[(0,dS s),(1,dF 50 [] []),(7,dI (↑(List.length s):Int)),(8,dI 0)],ob:=[]}:Tr):=by kernel_rfl
def Zgh (f:FuncId) (s:LU) (i:Int):St:=⟨[(0,.str s),(1,.func (.func f) [] []),(7,.int .i64 s.length),(8,.int .i64 i)],[]⟩
theorem Z7o (s:LU) (i:Int):let A:=(↑(UInt8.toNat (List.getD s (Int.toNat i) (0:UInt8))):Int);let B:=(↑(List.length s):Int);let C:=cut sc27 0;let E:=(i+(1:Int));gH (ctr libT bytQ) 0 false rs27 C (Zgh 28 s i)=(brT (decide (i<B)) (Ow ((0:Int)<=i/\i<B) (Ow ((0:Int)<=A/\A<(256:Int)) (brT (!tb Z19 A) (Rt (dB false) []) (I8 E (Jm C {tm:=[(0,dS s),(1,dF 28 [] []),(7,dI B),(8,dI E)],ob:=[]}))))) (Rt (dB true) []):Tr):=by intro A B C E;kernel_rfl
theorem Z7n (s:LU) (i:Int):let A:=(↑(UInt8.toNat (List.getD s (Int.toNat i) (0:UInt8))):Int);let B:=(↑(List.length s):Int);let C:=cut sc27 0;let E:=(i+(1:Int));gH (ctr libT bytQ) 0 false rs27 C (Zgh 50 s i)=(brT (decide (i<B)) (Ow ((0:Int)<=i/\i<B) (Ow ((0:Int)<=A/\A<(256:Int)) (brT (!tb Z0R A) (Rt (dB false) []) (I8 E (Jm C {tm:=[(0,dS s),(1,dF 50 [] []),(7,dI B),(8,dI E)],ob:=[]}))))) (Rt (dB true) []):Tr):=by intro A B C E;kernel_rfl
theorem Zab {p:UInt8->Bool} {s:LU} {i:Nat} (h:i<s.length):(s.drop i).all p=(p (s.getD i 0) && (s.drop (i+1)).all p):=by
 rw[List.drop_eq_getElem_cons h,List.all_cons,List.getD_eq_getElem?_getD,List.getElem?_eq_getElem h];rfl
theorem Zm2 (s:LU) (hl:s.length<=4611686018427387904): ∀ (m i:Nat),s.length-i=m->i<=s.length →
  At Tryz.prog 0 (cut sc27 0) (Zgh 28 s i) (FinQ false 0 rs27 λr ob=>r=.bool ((s.drop i).all Z19)/\ob=[]):=by
 intro m;induction m with
 |zero =>
  intro i hm hi;refine At.tree (Z2 Z1 Z1Y) (Z7o s i) ?_;rw[List.drop_eq_nil_of_le (by omega)];simp only[SS];exact⟨λh=>by omega,λ_=>rfl⟩
 |succ m a =>
  intro i hm hi;refine At.tree (Z2 Z1 Z1Y) (Z7o s i) ?_;rw[Zab (by omega)];simp only[SS,Z8X];refine⟨λ_=>⟨by omega,Zea _ _,λh=>by simp only[h,Bool.false_and],λh=>⟨by omega,?_⟩⟩,λh=>by omega⟩;rw[h,Bool.true_and];exact a (i+1) (by omega) (by omega)
theorem Zm1 (s:LU) (hl:s.length<=4611686018427387904): ∀ (m i:Nat),s.length-i=m->i<=s.length →
  At Tryz.prog 0 (cut sc27 0) (Zgh 50 s i) (FinQ false 0 rs27 λr ob=>r=.bool ((s.drop i).all Z0R)/\ob=[]):=by
 intro m;induction m with
 |zero =>
  intro i hm hi;refine At.tree (Z2 Z1 Z1Y) (Z7n s i) ?_;rw[List.drop_eq_nil_of_le (by omega)];simp only[SS];exact⟨λh=>by omega,λ_=>rfl⟩
 |succ m a =>
  intro i hm hi;refine At.tree (Z2 Z1 Z1Y) (Z7n s i) ?_;rw[Zab (by omega)];simp only[SS,Z8X];refine⟨λ_=>⟨by omega,Zea _ _,λh=>by simp only[h,Bool.false_and],λh=>⟨by omega,?_⟩⟩,λh=>by omega⟩;rw[h,Bool.true_and];exact a (i+1) (by omega) (by omega)
def allQ:QT:=λd xs ob=>match d,xs,ob with
 |.func (.func f) [] [],[.str s,.func (.func g) [] []],[]=>if f=27 then (if g=28 then some (.ok (s.length<=4611686018427387904) (.bool (s.all Z19)) [])
   else if g=50 then some (.ok (s.length<=4611686018427387904) (.bool (s.all Z0R)) []) else none) else none
 |_,_,_=>none
theorem Zem:allQ.OK:=by
 intro d xs ob rt h;unfold allQ at h;split at h
 ·rename_i f s g;split at h
  ·rename_i hf;subst hf;split at h
   ·rename_i a;subst a;cases h;exactλhl=>CallL.tree Z3 fp27 (Z2 Z1 Z1Y) (Zhd s) (Zm2 s hl _ 0 rfl (Nat.zero_le _))
   split at h
   ·rename_i a;subst a;cases h;exactλhl=>CallL.tree Z3 fp27 (Z2 Z1 Z1Y) (Zhc s) (Zm1 s hl _ 0 rfl (Nat.zero_le _))
   ·cases h
  ·cases h
 ·cases h
end Go.Proofs.YtaclfbhhekhflaaGreatDoor
/- Symbol and Variable. -/
namespace Go.Proofs.YtaclfbhhekhflaaGreatDoor
open Go.Sx
theorem Zh6 (s t:LU):let A:=(↑(List.length t):Int);let B:=(↑(List.length s):Int);gP (ctr libT) rs75 sc75 [dS s,dS t]=(brT (decide (A<=B)) (Ow ((0:Int)<=(0:Int)/\(0:Int)<=A/\A<=B) (Rt (dB (decide (List.drop 0 (List.take (Int.toNat A) s)=t))) [])) (Rt (dB false) []):Tr):=by intro A B;kernel_rfl
theorem Zla (s t:LU):FK 75 [.str s,.str t] (.bool (t.isPrefixOf s)):=by
 refine FnOK.tree Z3 fp75 (Z2 Z1 Z0) (Zh6 s t) ?_;simp only[SS,Int.ofNat_le];refine⟨λh=>⟨by omega,?_⟩,λh=>?_⟩
 ·rw[Bool.eq_iff_iff,decide_eq_true_eq,List.isPrefixOf_iff_prefix,List.prefix_iff_eq_take];exact eq_comm
 ·rw[eq_comm,<- Bool.not_eq_true,List.isPrefixOf_iff_prefix];exactλhp=>h hp.length_le
theorem Zmd (s:LU) (c:Int):gP (ctr libT) rs76 sc76 [dS s,dU c]=(Jm (cut sc76 0) {tm:=[(0,dS s),(1,dU c)],ob:=[]}:Tr):=by kernel_rfl
def Zl9 (s:LU) (c:Int):St:=⟨[(0,.str s),(1,.int .u8 c)],[]⟩
theorem Zaf (s:LU) (c:Int):let A:=(↑(List.length s):Int);let B:=Rt (dS s) [];let C:=cut sc76 0;gH (ctr libT) 0 true rs76 C (Zl9 s c)=(brT (decide ((0:Int)<A)) (Ow ((0:Int)<=(0:Int)/\(0:Int)<A) (brT (decide ((↑(UInt8.toNat (List.getD s 0 (0:UInt8))):Int)=c)) (Ow ((0:Int)<=(1:Int)/\(1:Int)<=A/\A<=A) (Jm C {tm:=[(0,dS (List.drop 1 (List.take (Int.toNat A) s))),(1,dU c)],ob:=[]})) B)) B:Tr):=by intro A B C;kernel_rfl
theorem Zhl (c:UInt8): ∀ (s:LU),At Tryz.prog 0 (cut sc76 0) (Zl9 s c.toNat) (FinQ true 0 rs76 λr _=>r=.str (s.dropWhile (· == c)))
 |[]=>by
  refine At.tree (Z2 Z1 Z0) (Zaf [] c.toNat) ?_;simp[Zs,Z4,Z7]
 |b::r=>by
  refine At.tree (Z2 Z1 Z0) (Zaf (b::r) c.toNat) ?_;simp only[SS,List.length_cons,List.getD_cons_zero];refine⟨λ_=>⟨by omega,λh=>⟨by omega,?_⟩,λh=>?_⟩,λh=>by omega⟩
  ·have a:b=c:=UInt8.toNat_inj.1 (by omega)
   have:=Zhl c r;simp only[List.dropWhile_cons,a,beq_self_eq_true,if_true];simpa [Int.toNat_natCast,Zl9] using this
  ·have a:b≠c:=λh'=>h (by rw[h']);simp[List.dropWhile_cons,a]
theorem Zo1 (s:LU) (c:UInt8):FK 76 [.str s,.int .u8 c.toNat] (.str (s.dropWhile (· == c))) :=
 FnOK.tree Z3 fp76 (Z2 Z1 Z0) (Zmd s c.toNat) (Zhl c s)
def strP:PT:=λf xs=>if f=76 then match xs with
  |[.str s,.int .u8 c]=>some (.ok (0<=c/\c<256) (.str (s.dropWhile (· == UInt8.ofNat c.toNat))) [])
  |_=>none
 else if f=75 then match xs with
  |[.str s,.str t]=>some (.ok True (.bool (t.isPrefixOf s)) [])
  |_=>none
 else none
theorem ZbV:strP.OK:=by
 intro f xs rt h;unfold strP at h;split at h
 ·rename_i hf;subst hf;split at h
  ·rename_i s c;cases h;intro hc
   have:=Zo1 s (UInt8.ofNat c.toNat);rwa [show ((UInt8.ofNat c.toNat).toNat:Int)=c by rw[UInt8.toNat_ofNat_of_lt' (by show _<256;omega)];omega] at this
  ·cases h
 split at h
 ·rename_i hf;subst hf;split at h
  ·cases h;exactλ_=>Zla _ _
  ·cases h
 ·cases h
theorem Zep (s:LU):gP (ctr strP) rs49 sc49 [dS s,dS [95]]=(brT (decide (s=[])) (Rt (dS s) []) (Ow ((0:Int)<=(0:Int)/\(0:Int)<(1:Int)) (Ow ((0:Int)<=(0:Int)/\(0:Int)<(1:Int)) (Ow ((0:Int)<=(95:Int)/\(95:Int)<(256:Int)) (Rt (dS (List.dropWhile (λx=>x == UInt8.ofNat 95) s)) [])))):Tr):=by kernel_rfl
theorem Zfp (s:LU):FK 49 [.str s,.str [95]] (.str (s.dropWhile Z0l)):=by
 refine FnOK.tree Z3 fp49 (Z2 ZbV Z0) (Zep s) ?_;simp only[SS];refine⟨λh=>by rw[h];rfl,λh=>⟨by decide,by decide,by decide,rfl⟩⟩
theorem Zh7 (s t:LU):let A:=(↑(List.length s):Int);let B:=(↑(List.length t):Int);gP (ctr strP) rs48 sc48 [dS s,dS t]=(Ow True (brT (!List.isPrefixOf t s) (Rt (D.tuple [dS s,dB false]) []) (Ow ((0:Int)<=B/\B<=A/\A<=A) (Rt (D.tuple [dS (List.drop (Int.toNat B) (List.take (Int.toNat A) s)),dB true]) []))):Tr):=by intro A B;kernel_rfl
theorem ZlB (s t:LU):FK 48 [.str s,.str t] (if t.isPrefixOf s=true then .tuple [.str (s.drop t.length),.bool true] else .tuple [.str s,.bool false]):=by
 refine FnOK.tree Z3 fp48 (Z2 ZbV Z0) (Zh7 s t) ?_;simp only[SS];refine⟨λh=>by rw[if_neg (by simp[h])],λh=>?_⟩;have hl:=(List.isPrefixOf_iff_prefix.1 h).length_le;rw[if_pos h];exact⟨by omega,rfl⟩
def ZdS:PT:=λf xs=>if f=48 then match xs with
  |[.str s,.str t]=>some (.br (t.isPrefixOf s) (.ok True (.tuple [.str (s.drop t.length),.bool true]) []) (.ok True (.tuple [.str s,.bool false]) []))
  |_=>none
 else if f=49 then match xs with
  |[.str s,.str [95]]=>some (.ok True (.str (s.dropWhile Z0l)) [])
  |_=>none
 else none
theorem Z5Y:ZdS.OK:=by
 intro f xs rt h;unfold ZdS at h;split at h
 ·rename_i hf;subst hf;split at h
  ·rename_i s t;cases h
   have:=ZlB s t;cases hp:t.isPrefixOf s<;>(rw[hp] at this;exactλ_=>this)
  ·cases h
 split at h
 ·rename_i hf;subst hf;split at h
  ·cases h;exactλ_=>Zfp _
  ·cases h
 ·cases h
theorem Zeo (s t:LU):gP (ctr ZdS) rs24 sc24 [dS s,dS t]=(brT (List.isPrefixOf t s) (Ow True (Rt (D.tuple [dS (List.drop (List.length t) s),dB true]) [])) (Ow True (Rt (D.tuple [dS s,dB false]) [])):Tr):=by kernel_rfl
theorem ZgF (s t:LU):FK 24 [.str s,.str t] (if t.isPrefixOf s=true then .tuple [.str (s.drop t.length),.bool true] else .tuple [.str s,.bool false]):=by
 refine FnOK.tree Z3 fp24 (Z2 Z5Y Z0) (Zeo s t) ?_;simp only[SS];exact⟨λh=>by rw[if_pos h],λh=>by rw[if_neg (by simp[h])]⟩
def wqQ:QT:=bytQ.or allQ
theorem Zhf:wqQ.OK:=QT.or_ok Z1Y Zem
def Zip (s:LU):Tr:=Ow True (brT (!decide (List.dropWhile Z0l s=[])) (Ow ((0:Int)<=(0:Int)/\(0:Int)<(↑(List.length (List.dropWhile Z0l s)):Int)) (Ow ((0:Int)<=(↑(UInt8.toNat (List.getD (List.dropWhile Z0l s) 0 (0:UInt8))):Int)/\(↑(UInt8.toNat (List.getD (List.dropWhile Z0l s) 0 (0:UInt8))):Int)<(256:Int)) (brT (tb Z2o (↑(UInt8.toNat (List.getD (List.dropWhile Z0l s) 0 (0:UInt8))):Int)) (Ow (List.length (List.dropWhile Z0l s)<=4611686018427387904) (brT (List.all (List.dropWhile Z0l s) Z0R) (Rt (dB (decide ((↑(List.length s):Int)<=(32:Int)))) []) (Rt (dB false) []))) (Rt (dB false) [])))) (Rt (dB false) []))
theorem ZeV (s:LU):gC (ctr ZdS wqQ) 0 rs25 sc25 [] [dS s,dF 80 [] []] [] []=Zip s:=by kernel_rfl
def Zio (s:LU):Tr:=Ow True (brT (!decide (List.dropWhile Z0l s=[])) (Ow ((0:Int)<=(0:Int)/\(0:Int)<(↑(List.length (List.dropWhile Z0l s)):Int)) (Ow ((0:Int)<=(↑(UInt8.toNat (List.getD (List.dropWhile Z0l s) 0 (0:UInt8))):Int)/\(↑(UInt8.toNat (List.getD (List.dropWhile Z0l s) 0 (0:UInt8))):Int)<(256:Int)) (brT (tb Z83 (↑(UInt8.toNat (List.getD (List.dropWhile Z0l s) 0 (0:UInt8))):Int)) (Ow (List.length (List.dropWhile Z0l s)<=4611686018427387904) (brT (List.all (List.dropWhile Z0l s) Z0R) (Rt (dB (decide ((↑(List.length s):Int)<=(32:Int)))) []) (Rt (dB false) []))) (Rt (dB false) [])))) (Rt (dB false) []))
theorem ZeU (s:LU):gC (ctr ZdS wqQ) 0 rs25 sc25 [] [dS s,dF 26 [] []] [] []=Zio s:=by kernel_rfl
theorem ZdO {p:UInt8->Bool} {s:LU} (h: ¬ s.dropWhile p=[]): ∃ b r,s.dropWhile p=b::r:=by
 cases a:s.dropWhile p with
 |nil=>exact (h a).elim
 |cons b r=>exact⟨b,r,rfl⟩
theorem Zfh (s:LU) (hl:s.length<=4611686018427387904):CF 25 [.str s,.func (.func 80) [] []] [] λr ob=>r=.bool (Z2y Z2o s)/\ob=[]:=by
 refine CallL.tree Z3 fp25 (Z2 Z5Y Zhf) (ZeV s) ?_;unfold Zip Z2y;simp only[SS];refine⟨λh=>?_,λh=>by rw[h]⟩;obtain⟨b,r,c⟩:=ZdO h;have h1:=(List.dropWhile_sublist (l:=s) Z0l).length_le;rw[c] at h1 ⊢;simp only[List.length_cons,List.getD_cons_zero,Z8X];rw[List.length_cons] at h1;exact⟨by omega,⟨by omega,by have:=b.toNat_lt;omega⟩,λh2=>⟨by omega,λa=>by simp only[h2,a,Bool.true_and,Int.ofNat_le,show (32:Int)=((32:Nat):Int) from rfl],λa=>by simp only[a,Bool.and_false,Bool.false_and]⟩,λh2=>by simp only[h2,Bool.false_and]⟩
theorem Zff (s:LU) (hl:s.length<=4611686018427387904):CF 25 [.str s,.func (.func 26) [] []] [] λr ob=>r=.bool (Z2y Z83 s)/\ob=[]:=by
 refine CallL.tree Z3 fp25 (Z2 Z5Y Zhf) (ZeU s) ?_;unfold Zio Z2y;simp only[SS];refine⟨λh=>?_,λh=>by rw[h]⟩;obtain⟨b,r,c⟩:=ZdO h;have h1:=(List.dropWhile_sublist (l:=s) Z0l).length_le;rw[c] at h1 ⊢;simp only[List.length_cons,List.getD_cons_zero,Z8X];rw[List.length_cons] at h1;exact⟨by omega,⟨by omega,by have:=b.toNat_lt;omega⟩,λh2=>⟨by omega,λa=>by simp only[h2,a,Bool.true_and,Int.ofNat_le,show (32:Int)=((32:Nat):Int) from rfl],λa=>by simp only[a,Bool.and_false,Bool.false_and]⟩,λh2=>by simp only[h2,Bool.false_and]⟩
def ZiG:QT:=λd xs ob=>match d,xs,ob with
 |.func (.func f) [] [],[.str s,.func (.func g) [] []],[]=>if f=25 then (if g=80 then some (.ok (s.length<=4611686018427387904) (.bool (Z2y Z2o s)) [])
   else if g=26 then some (.ok (s.length<=4611686018427387904) (.bool (Z2y Z83 s)) []) else none) else none
 |_,_,_=>none
theorem Zfg:ZiG.OK:=by
 intro d xs ob rt h;unfold ZiG at h;split at h
 ·split at h
  ·rename_i hf;subst hf;split at h
   ·rename_i a;subst a;cases h;exactλhl=>Zfh _ hl
   split at h
   ·rename_i a;subst a;cases h;exactλhl=>Zff _ hl
   ·cases h
  ·cases h
 ·cases h
def ZlC:PT:=λf xs=>if f=24 then match xs with
  |[.str s,.str t]=>some (.br (t.isPrefixOf s) (.ok True (.tuple [.str (s.drop t.length),.bool true]) []) (.ok True (.tuple [.str s,.bool false]) []))
  |_=>none
 else none
theorem ZgG:ZlC.OK:=by
 intro f xs rt h;unfold ZlC at h;split at h
 ·rename_i hf;subst hf;split at h
  ·rename_i s t;cases h
   have:=ZgF s t;cases hp:t.isPrefixOf s<;>(rw[hp] at this;exactλ_=>this)
  ·cases h
 ·cases h
def wq2:QT:=ZiG.or allQ
theorem Zhg:wq2.OK:=QT.or_ok Zfg Zem
def PSym (s:LU):Tr:=Ow (List.length s<=4611686018427387904) (brT (Z2y Z2o s) (Rt (D.bool !decide (s=[(110:UInt8),(111:UInt8),(116:UInt8)])) []) (Rt (dB false) []))
theorem Zmm (s:LU):gP (ctr libT wq2) Zkn Zjw [dS s]=PSym s:=by kernel_rfl
def PVar (s:LU):Tr:=brT (List.isPrefixOf [(95:UInt8)] s) (Ow True (Ow (List.length s<=4611686018427387904) (brT (Z2y Z83 s) (Rt (dB true) []) (Ow (List.length (List.drop 1 s)<=4611686018427387904) (brT (List.all (List.drop 1 s) Z19) (Rt (dB (decide ((↑(List.length s):Int)<=(32:Int)))) []) (Rt (dB false) [])))))) (Ow True (Ow (List.length s<=4611686018427387904) (brT (Z2y Z83 s) (Rt (dB true) []) (Rt (dB false) []))))
theorem Zmh (s:LU):gP (ctr ZlC wq2) rs9 sc9 [dS s]=PVar s:=by kernel_rfl
theorem Z6m (s:LU) (hl:s.length<=4611686018427387904):FK 119 [.str s] (.bool (Qm s)):=by
 refine FnOK.tree Z3 Zrl (Z2 Z1 Zhg) (Zmm s) ?_;unfold PSym Qm;simp only[SS];refine⟨hl,λh=>?_,λh=>by simp only[h,Bool.false_and]⟩;simp only[h,Bool.true_and,Lx.Zud];exact (decide_not (p:=s=[110,111,116])).symm
theorem Z0D (s:LU) (hl:s.length<=4611686018427387904):FK 9 [.str s] (.bool (Zk s)):=by
 refine FnOK.tree Z3 fp9 (Z2 ZgG Zhg) (Zmh s) ?_;unfold PVar Zk;simp only[SS];have c:(s.drop 1).length<=s.length:=by simp
 have h0:List.isPrefixOf [95] s=true-> ∃ r,s=95::r:=λh=>by
  obtain⟨t,d⟩:=List.isPrefixOf_iff_prefix.1 h;exact⟨t,d.symm⟩
 have b:List.isPrefixOf [95] s=false-> ∀ r,s≠95::r:=λh r hr=>by rw[hr] at h;simp[List.isPrefixOf] at h
 refine⟨λh=>⟨hl,λa=>by simp only[a,Bool.true_or],λa=>?_⟩,λh=>⟨hl,λa=>by simp only[a,Bool.true_or],λa=>?_⟩⟩
 ·obtain⟨r,rfl⟩:=h0 h;simp only[List.length_cons,List.length_nil,List.drop_succ_cons,List.drop_zero] at c hl ⊢;exact⟨by omega,λha=>by simp only[a,ha,Bool.false_or,Bool.true_and,Int.ofNat_le,show (32:Int)=((32:Nat):Int) from rfl],λha=>by simp only[a,ha,Bool.false_or,Bool.false_and]⟩
 ·simp only[a,Bool.false_or];split
  ·rename_i r;exact absurd rfl (b h r)
  ·rfl
end Go.Proofs.YtaclfbhhekhflaaGreatDoor
