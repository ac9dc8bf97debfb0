/- Own work: a layer over the kit: plain data,a walk over it,its soundness. -/
import Derived.Lib.IndexMore
import Derived.Test.YtaclfbhhekhflaaGreatDoorEvery
import Derived.Test.YtaclfbhhekhflaaGreatDoorSx8
set_option linter.all false
set_option maxRecDepth 100000
/- Depth,shape. -/
noncomputable section
namespace Go.Proofs.YtaclfbhhekhflaaGreatDoor
open Go.Sx
def dCtr (l:List (Nat × D)) (e:List (Nat × List D):=[]) (q:QT:=Qr):Ctr:=⟨λt f a=>match lk l t with|some r=>some (.ok (FK f a r) r [])|none=>none,λ_=>q,λt _=>(lk e t).getD []⟩
theorem Z9 {l:List (Nat × D)} {e:List (Nat × List D)} {q:QT} (a:q.OK):(dCtr l e q).OK Tryz.prog:=by
 refine⟨λt f b rt h=>?_,λ_=>a⟩;simp only[dCtr] at h;split at h
 ·cases h;exactλhp=>hp
 ·cases h
def asmK (r:D):QT:=λd xs ob=>some (.ok (CallL Tryz.prog d xs ob λr0 o=>r0=r/\o=ob) r ob)
theorem Z63 (r:D):(asmK r).OK:=by intro d xs ob rt h;cases h;exactλhp=>hp
theorem ZmT (k n:Int) (s:LU) (a:LD):gP (dCtr []) rs84 sc84 [dA (tC k n s a)]=(Jm (cut sc84 0) {tm:=[(3,dI 0),(7,dL a []),(8,dI (↑(List.length a):Int)),(9,dI 0)],ob:=[]}:Tr):=by kernel_rfl
def hdDe (a:LD) (m d i:Int):St:=⟨[(3,.int .i64 d),(7,.slice a []),(8,.int .i64 m),(9,.int .i64 i)],[]⟩
theorem Zan (a:LD) (m d i e nx:Int) (f:LU) (b:LD) (c q:Int):let A:=[dU e,dI nx,dS f,dL b []];let B:=cut sc84 0;let C:=(i+(1:Int));let E:=(d+(1:Int));gH (dCtr [(15,dI c)] [(11,tC e nx f b),(16,[dI q])]) 0 true rs84 B (hdDe a m d i)=(brT (decide (i<m)) (Ow ((0:Int)<=i/\a[Int.toNat i]? = some A) (Ow (FK 84 [dA A] (dI c)) (Ow (IntKind.i64=IntKind.i64/\(if true=true then if c > d then c else d else if c<d then c else d)=q) (I8 C (Jm B {tm:=[(3,dI q),(7,dL a []),(8,dI m),(9,dI C)],ob:=[]}))))) (I8 E (Rt (dI E) [])):Tr):=by intro A B C E;kernel_rfl
theorem Zn2 (k n:Int) (s:LU) (a:LD) (lo hi:Int):let A:=(↑(List.length a):Int);gP (dCtr []) Zkp Zjy [dA (tC k n s a),dI lo,dI hi]=(brT (decide (lo<=A)) (Rt (dB (decide (A<=hi))) []) (Rt (dB false) []):Tr):=by intro A;kernel_rfl
theorem Ztp (k n:Int) (s:LU) (a:LD) (b:Bool):let A:=[(0,oC [dU k,dI n,dS s,dL a []])];let B:=Rt (dB false) A;gC (dCtr [(20,dB b)]) 1 Zkq Zjz [] [] [dP 0 0] [(0,oC (tC k n s a))]=(brT (decide ((-2147483647:Int)<=n)) (brT (decide (n<=(2147483647:Int))) (brT (decide (s=[])) (Ow (FK 117 [dA [dU k,dI n,dS s,dL a []],dI 0,dI 0] (dB b)) (Rt (dB b) A)) B) B) B:Tr):=by intro A B;kernel_rfl
theorem Zto (k n:Int) (s:LU) (a:LD) (nb y b:Bool):let A:=[(0,oC [dB nb]),(1,oC [dU k,dI n,dS s,dL a []])];let B:=Rt (dB false) A;gC (dCtr [(8,dB y),(12,dB b)]) 2 Zko Zjx [] [] [dP 0 0,dP 1 0] [(0,oC [dB nb]),(1,oC (tC k n s a))]=(brT nb (Ow (FK 119 [dS s] (dB y)) (brT y (Ow (FK 117 [dA [dU k,dI n,dS s,dL a []],dI 0,dI 0] (dB b)) (Rt (dB b) A)) B)) B:Tr):=by intro A B;kernel_rfl
theorem Ztn (k n:Int) (s:LU) (a:LD) (nb y b:Bool):let A:=[(0,oC [dB nb]),(1,oC [dU k,dI n,dS s,dL a []])];let B:=Rt (dB false) A;gC (dCtr [(8,dB y),(12,dB b)]) 2 Zkm Zjv [] [] [dP 0 0,dP 1 0] [(0,oC [dB nb]),(1,oC (tC k n s a))]=(brT nb (Ow (FK 9 [dS s] (dB y)) (brT y (Ow (FK 117 [dA [dU k,dI n,dS s,dL a []],dI 0,dI 0] (dB b)) (Rt (dB b) A)) B)) B:Tr):=by intro A B;kernel_rfl
theorem Ztm (k n:Int) (s:LU) (a:LD) (nb y b:Bool):let A:=[(0,oC [dB nb]),(1,oC [dU k,dI n,dS s,dL a []])];let B:=Rt (dB false) A;gC (dCtr [(8,dB y),(12,dB b)]) 2 Zkl Zju [] [] [dP 0 0,dP 1 0] [(0,oC [dB nb]),(1,oC (tC k n s a))]=(brT nb (Ow (FK 119 [dS s] (dB y)) (brT y (Ow (FK 117 [dA [dU k,dI n,dS s,dL a []],dI 1,dI 8] (dB b)) (Rt (dB b) A)) B)) B:Tr):=by intro A B;kernel_rfl
theorem Ztl (k n:Int) (s:LU) (a:LD) (nb ob c b:Bool):let A:=[(0,oC [dB nb]),(1,oC [dB ob]),(2,oC [dU k,dI n,dS s,dL a []])];let B:=Rt (dB false) A;let C:=[dU k,dI n,dS s,dL a []];gC (dCtr [(10,dB c),(18,dB b)]) 3 Zkk Zjt [] [] [dP 0 0,dP 1 0,dP 2 0] [(0,oC [dB nb]),(1,oC [dB ob]),(2,oC (tC k n s a))]=(brT nb (brT ob (Ow (FK 117 [dA C,dI 2,dI 2] (dB c)) (brT c (Rt (dB true) A) (brT (decide (s=[(45:UInt8)])) (Ow (FK 117 [dA C,dI 1,dI 1] (dB b)) (Rt (dB b) A)) B))) B) B:Tr):=by intro A B C;kernel_rfl
theorem Ztk (k n:Int) (s:LU) (a:LD) (b:Bool):let A:=[dU k,dI n,dS s,dL a []];let B:=Rt (dB false) [(0,oC A)];gC (dCtr [(14,dB b)]) 1 Zkj Zjs [] [] [dP 0 0] [(0,oC (tC k n s a))]=(brT (decide (n=(0:Int))) (brT (decide (s=[])) (Ow (FK 117 [dA A,dI 2,dI 2] (dB b)) (Rt (dB b) [(0,oC A)])) B) B:Tr):=by intro A B;kernel_rfl
theorem Zsp (k n:Int) (s:LU) (a:LD) (y b:Bool):let A:=[dU k,dI n,dS s,dL a []];let B:=Rt (dB b) [];let C:=[(0,oC [dB false]),(1,oC A)];let E:=[dP 0 0,dP 1 0];let F:=[(0,oC A)];let G:=dF 122 [] [dP 0 0,dP 1 0,dP 2 0];let H:=(↑(List.length s):Int);let I:=[dB false];let J:=dF 116 [] [dP 0 0];let K:=dF 123 [] [dP 0 0];let L:=Rt (dB false) [];let M:=FK 115 [dS [43,45,42,47,92],dS s] (dB y);let N:=dF 118 [] E;let O:=dF 120 [] E;let P:=dF 121 [] E;let Q:=[(0,oC I),(1,oC I),(2,oC A)];gP (dCtr [(20,dB y)] [] (asmK (dB b))) rs86 sc86 [dA (tC k n s a)]=(brT (decide (n=(0:Int))) (Ow M (brT y (brT (decide (k=(1:Int))) (Ow (CallL Tryz.prog J [] F λr0 o=>r0=dB b/\o=F) B) (brT (decide (k=(2:Int))) (Ow (CallL Tryz.prog N [] [(0,oC [D.bool !decide (s=[])]),(1,oC A)] λr0 o=>r0=dB b/\o=[(0,oC [D.bool !decide (s=[])]),(1,oC A)]) B) (brT (decide (k=(3:Int))) (Ow (CallL Tryz.prog O [] [(0,oC [D.bool !decide (s=[])]),(1,oC A)] λr0 o=>r0=dB b/\o=[(0,oC [D.bool !decide (s=[])]),(1,oC A)]) B) (brT (decide (k=(4:Int))) (Ow (CallL Tryz.prog P [] [(0,oC [D.bool !decide (s=[])]),(1,oC A)] λr0 o=>r0=dB b/\o=[(0,oC [D.bool !decide (s=[])]),(1,oC A)]) B) (brT (decide (k=(5:Int))) (Ow (CallL Tryz.prog G [] [(0,oC [D.bool !decide (s=[])]),(1,oC [dB (decide (H=(1:Int)))]),(2,oC A)] λr0 o=>r0=dB b/\o=[(0,oC [D.bool !decide (s=[])]),(1,oC [dB (decide (H=(1:Int)))]),(2,oC A)]) B) (brT (decide (k=(6:Int))) (Ow (CallL Tryz.prog K [] F λr0 o=>r0=dB b/\o=F) B) L)))))) (brT (decide (k=(1:Int))) (Ow (CallL Tryz.prog J [] F λr0 o=>r0=dB b/\o=F) B) (brT (decide (k=(2:Int))) (Ow (CallL Tryz.prog N [] [(0,oC [D.bool !decide (s=[])]),(1,oC A)] λr0 o=>r0=dB b/\o=[(0,oC [D.bool !decide (s=[])]),(1,oC A)]) B) (brT (decide (k=(3:Int))) (Ow (CallL Tryz.prog O [] [(0,oC [D.bool !decide (s=[])]),(1,oC A)] λr0 o=>r0=dB b/\o=[(0,oC [D.bool !decide (s=[])]),(1,oC A)]) B) (brT (decide (k=(4:Int))) (Ow (CallL Tryz.prog P [] [(0,oC [D.bool !decide (s=[])]),(1,oC A)] λr0 o=>r0=dB b/\o=[(0,oC [D.bool !decide (s=[])]),(1,oC A)]) B) (brT (decide (k=(5:Int))) (Ow (CallL Tryz.prog G [] [(0,oC [D.bool !decide (s=[])]),(1,oC I),(2,oC A)] λr0 o=>r0=dB b/\o=[(0,oC [D.bool !decide (s=[])]),(1,oC I),(2,oC A)]) B) (brT (decide (k=(6:Int))) (Ow (CallL Tryz.prog K [] F λr0 o=>r0=dB b/\o=F) B) L)))))))) (Ow M (brT y (brT (decide (k=(1:Int))) (Ow (CallL Tryz.prog J [] F λr0 o=>r0=dB b/\o=F) B) (brT (decide (k=(2:Int))) (Ow (CallL Tryz.prog N [] C λr0 o=>r0=dB b/\o=C) B) (brT (decide (k=(3:Int))) (Ow (CallL Tryz.prog O [] C λr0 o=>r0=dB b/\o=C) B) (brT (decide (k=(4:Int))) (Ow (CallL Tryz.prog P [] C λr0 o=>r0=dB b/\o=C) B) (brT (decide (k=(5:Int))) (Ow (CallL Tryz.prog G [] [(0,oC I),(1,oC [dB (decide (H=(1:Int)))]),(2,oC A)] λr0 o=>r0=dB b/\o=[(0,oC I),(1,oC [dB (decide (H=(1:Int)))]),(2,oC A)]) B) (brT (decide (k=(6:Int))) (Ow (CallL Tryz.prog K [] F λr0 o=>r0=dB b/\o=F) B) L)))))) (brT (decide (k=(1:Int))) (Ow (CallL Tryz.prog J [] F λr0 o=>r0=dB b/\o=F) B) (brT (decide (k=(2:Int))) (Ow (CallL Tryz.prog N [] C λr0 o=>r0=dB b/\o=C) B) (brT (decide (k=(3:Int))) (Ow (CallL Tryz.prog O [] C λr0 o=>r0=dB b/\o=C) B) (brT (decide (k=(4:Int))) (Ow (CallL Tryz.prog P [] C λr0 o=>r0=dB b/\o=C) B) (brT (decide (k=(5:Int))) (Ow (CallL Tryz.prog G [] Q λr0 o=>r0=dB b/\o=Q) B) (brT (decide (k=(6:Int))) (Ow (CallL Tryz.prog K [] F λr0 o=>r0=dB b/\o=F) B) L)))))))):Tr):=by intro A B C E F G H I J K L M N O P Q;kernel_rfl
theorem Z4p (k n:Int) (s:LU) (a:LD) (lo hi:Int):FK 117 [.agg (tC k n s a),.int .i64 lo,.int .i64 hi] (.bool (decide (lo<=(a.length:Int)) && decide ((a.length:Int)<=hi))):=by
 refine FnOK.tree Z3 Zrn (Z9 Z0) (Zn2 k n s a lo hi) ?_;cases h:decide (lo<=(a.length:Int))<;>simp[brT,Z7]
theorem ZrS (k n:Int) (s:LU) (a:LD):CallL Tryz.prog (.func (.func 116) [] [.ptr 0 0]) [] [(0,.cells (tC k n s a))] λr o=>r=.bool (decide (-2147483647<=n) && decide (n<=2147483647) && decide (s=[]) && (decide ((0:Int)<=(a.length:Int)) && decide ((a.length:Int)<=0)))/\o=[(0,.cells (tC k n s a))]:=by
 have ha:=Z4p k n s a 0 0;generalize (decide ((0:Int)<=(a.length:Int)) && decide ((a.length:Int)<=0))=b at ha ⊢;refine CallL.tree Z3 Zro (Z9 Z0) (Ztp k n s a b) ?_;simp only[Zs,Z4,Z7];exact⟨λh1=>⟨λh2=>⟨λc=>⟨ha,by rw[h1,h2,c];rfl,by first|rfl|trivial⟩,λc=>⟨by rw[h1,h2,c];rfl,by first|rfl|trivial⟩⟩,λh2=>⟨by rw[h1,h2];rfl,by first|rfl|trivial⟩⟩,λh1=>⟨by rw[h1];rfl,by first|rfl|trivial⟩⟩
theorem ZrR (k n:Int) (s:LU) (a:LD) (nb:Bool) (hs:s.length<=4611686018427387904):CallL Tryz.prog (.func (.func 118) [] [.ptr 0 0,.ptr 1 0]) [] [(0,.cells [.bool nb]),(1,.cells (tC k n s a))] λr o=>r=.bool (nb && Lx.Qm s && (decide ((0:Int)<=(a.length:Int)) && decide ((a.length:Int)<=0)))/\o=[(0,.cells [.bool nb]),(1,.cells (tC k n s a))]:=by
 have ha:=Z4p k n s a 0 0;have c:=Z6m s hs;generalize (decide ((0:Int)<=(a.length:Int)) && decide ((a.length:Int)<=0))=b at ha ⊢;generalize Lx.Qm s=y at c ⊢;refine CallL.tree Z3 Zrm (Z9 Z0) (Zto k n s a nb y b) ?_;cases nb
 ·rw[Zx,Z7];exact⟨rfl,rfl⟩
 ·rw[ZL,Z4];refine⟨c,?_⟩;cases y
  ·rw[Zx,Z7];exact⟨rfl,rfl⟩
  ·rw[ZL,Z4,Z7];exact⟨ha,rfl,rfl⟩
theorem ZrQ (k n:Int) (s:LU) (a:LD) (nb:Bool) (hs:s.length<=4611686018427387904):CallL Tryz.prog (.func (.func 120) [] [.ptr 0 0,.ptr 1 0]) [] [(0,.cells [.bool nb]),(1,.cells (tC k n s a))] λr o=>r=.bool (nb && Lx.Zk s && (decide ((0:Int)<=(a.length:Int)) && decide ((a.length:Int)<=0)))/\o=[(0,.cells [.bool nb]),(1,.cells (tC k n s a))]:=by
 have ha:=Z4p k n s a 0 0;have c:=Z0D s hs;generalize (decide ((0:Int)<=(a.length:Int)) && decide ((a.length:Int)<=0))=b at ha ⊢;generalize Lx.Zk s=y at c ⊢;refine CallL.tree Z3 Zrk (Z9 Z0) (Ztn k n s a nb y b) ?_;cases nb
 ·rw[Zx,Z7];exact⟨rfl,rfl⟩
 ·rw[ZL,Z4];refine⟨c,?_⟩;cases y
  ·rw[Zx,Z7];exact⟨rfl,rfl⟩
  ·rw[ZL,Z4,Z7];exact⟨ha,rfl,rfl⟩
theorem ZrP (k n:Int) (s:LU) (a:LD) (nb:Bool) (hs:s.length<=4611686018427387904):CallL Tryz.prog (.func (.func 121) [] [.ptr 0 0,.ptr 1 0]) [] [(0,.cells [.bool nb]),(1,.cells (tC k n s a))] λr o=>r=.bool (nb && Lx.Qm s && (decide ((1:Int)<=(a.length:Int)) && decide ((a.length:Int)<=8)))/\o=[(0,.cells [.bool nb]),(1,.cells (tC k n s a))]:=by
 have ha:=Z4p k n s a 1 8;have c:=Z6m s hs;generalize (decide ((1:Int)<=(a.length:Int)) && decide ((a.length:Int)<=8))=b at ha ⊢;generalize Lx.Qm s=y at c ⊢;refine CallL.tree Z3 Zrj (Z9 Z0) (Ztm k n s a nb y b) ?_;cases nb
 ·rw[Zx,Z7];exact⟨rfl,rfl⟩
 ·rw[ZL,Z4];refine⟨c,?_⟩;cases y
  ·rw[Zx,Z7];exact⟨rfl,rfl⟩
  ·rw[ZL,Z4,Z7];exact⟨ha,rfl,rfl⟩
theorem ZrO (k n:Int) (s:LU) (a:LD) (nb ob:Bool):CallL Tryz.prog (.func (.func 122) [] [.ptr 0 0,.ptr 1 0,.ptr 2 0]) [] [(0,.cells [.bool nb]),(1,.cells [.bool ob]),(2,.cells (tC k n s a))] λr o=>r=.bool (nb && ob && ((decide ((2:Int)<=(a.length:Int)) && decide ((a.length:Int)<=2)) ||decide (s=[45]) && (decide ((1:Int)<=(a.length:Int)) && decide ((a.length:Int)<=1))))/\o=[(0,.cells [.bool nb]),(1,.cells [.bool ob]),(2,.cells (tC k n s a))]:=by
 have ha:=Z4p k n s a 2 2;have c:=Z4p k n s a 1 1;generalize (decide ((2:Int)<=(a.length:Int)) && decide ((a.length:Int)<=2))=b at ha ⊢;generalize (decide ((1:Int)<=(a.length:Int)) && decide ((a.length:Int)<=1))=d at c ⊢;refine CallL.tree Z3 Zri (Z9 Z0) (Ztl k n s a nb ob b d) ?_;cases nb
 ·rw[Zx,Z7];exact⟨rfl,rfl⟩
 ·rw[ZL];cases ob
  ·rw[Zx,Z7];exact⟨rfl,rfl⟩
  ·rw[ZL,Z4];refine⟨ha,?_⟩;cases b
   ·simp only[Zx,Zs,Z4,Z7];exact⟨λh=>⟨c,by rw[h];rfl,by first|rfl|trivial⟩,λh=>⟨by rw[h];rfl,by first|rfl|trivial⟩⟩
   ·rw[ZL,Z7];exact⟨rfl,rfl⟩
theorem ZrN (k n:Int) (s:LU) (a:LD):CallL Tryz.prog (.func (.func 123) [] [.ptr 0 0]) [] [(0,.cells (tC k n s a))] λr o=>r=.bool (decide (n=0) && decide (s=[]) && (decide ((2:Int)<=(a.length:Int)) && decide ((a.length:Int)<=2)))/\o=[(0,.cells (tC k n s a))]:=by
 have ha:=Z4p k n s a 2 2;generalize (decide ((2:Int)<=(a.length:Int)) && decide ((a.length:Int)<=2))=b at ha ⊢;refine CallL.tree Z3 Zrh (Z9 Z0) (Ztk k n s a b) ?_;simp only[Zs,Z4,Z7];exact⟨λh1=>⟨λh2=>⟨ha,by rw[h1,h2];rfl,by first|rfl|trivial⟩,λh2=>⟨by rw[h1,h2];rfl,by first|rfl|trivial⟩⟩,λh1=>⟨by rw[h1];rfl,by first|rfl|trivial⟩⟩
theorem ZgI:((List.range 256).all λc=>Lib.contains [43,45,42,47,92] [UInt8.ofNat c] == (decide ([UInt8.ofNat c]=[43]) ||decide ([UInt8.ofNat c]=[45]) ||decide ([UInt8.ofNat c]=[42]) ||decide ([UInt8.ofNat c]=[47]) ||decide ([UInt8.ofNat c]=[92])))=true:=by kernel_rfl
theorem ZkC (s:LU):(Lib.contains [43,45,42,47,92] s && decide ((s.length:Int)=1))=(decide (s=[43]) ||decide (s=[45]) ||decide (s=[42]) ||decide (s=[47]) ||decide (s=[92])):=by
 by_cases h:s.length=1
 ·match s,h with
  |[c],_ =>
   have:=List.all_eq_true.1 ZgI c.toNat (List.mem_range.2 c.toNat_lt);rw[beq_iff_eq] at this;simp only[UInt8.ofNat_toNat] at this;rw[this];simp
 ·have h1: ¬ ((s.length:Int)=1):=by omega
  have h2: ∀ c:UInt8,s≠[c]:=λc e=>h (by rw[e];rfl);simp[h1,h2]
theorem ZfC (k n:Int) (s:LU) (a:LD) (hs:s.length<=4611686018427387904):FK 86 [.agg (tC k n s a)] (.bool (Qi k n s a.length)):=by
 have hc:FK 115 [.str [43,45,42,47,92],.str s] (.bool (Lib.contains [43,45,42,47,92] s)):=by
  have:=Z1 115 [.str [43,45,42,47,92],.str s] _ rfl;exact this (by decide)
 have l:=ZkC s;have t:(decide ((0:Int)<=(a.length:Int)) && decide ((a.length:Int)<=0))=decide (a.length=0):=by rw[Bool.eq_iff_iff];simp
 have u:(decide ((2:Int)<=(a.length:Int)) && decide ((a.length:Int)<=2))=decide (a.length=2):=by rw[Bool.eq_iff_iff];simp;omega
 have x:(decide ((1:Int)<=(a.length:Int)) && decide ((a.length:Int)<=1))=decide (a.length=1):=by rw[Bool.eq_iff_iff];simp;omega
 have z:(decide ((1:Int)<=(a.length:Int)) && decide ((a.length:Int)<=8))=(decide (1<=a.length) && decide (a.length<=8)):=by rw[Bool.eq_iff_iff];simp;omega
 have d: ∀ y:Bool,(y=true->s≠[])->(decide (n=0) && !decide (s=[]) && y)=(decide (n=0) && y):=λy h=>by
  cases y
  ·simp
  ·simp[h rfl]
 have v:Lx.Qm s=true->s≠[]:=λh e=>by rw[e] at h;exact absurd h (by decide)
 have va:Lx.Zk s=true->s≠[]:=λh e=>by rw[e] at h;exact absurd h (by decide)
 have m:(Lib.contains [43,45,42,47,92] s && decide ((s.length:Int)=1))=true->s≠[]:=λh e=>by rw[e] at h;simp at h
 have c1:=ZrS k n s a;have c2:=λnb=>ZrR k n s a nb hs;have c3:=λnb=>ZrQ k n s a nb hs;have p:=λnb=>ZrP k n s a nb hs;have c5:=λnb ob=>ZrO k n s a nb ob;have q:=ZrN k n s a;rw[t] at c1;simp only[t] at c2 c3;simp only[z] at p;simp only[u,x] at c5;rw[u] at q;generalize c:Qi k n s a.length=B;have F1:k=1->CallL Tryz.prog (.func (.func 116) [] [.ptr 0 0]) [] [(0,.cells (tC k n s a))] λr o=>r=.bool B/\o=[(0,.cells (tC k n s a))]:=λh=>by
  have e:(decide (-2147483647<=n) && decide (n<=2147483647) && decide (s=[]) && decide (a.length=0))=B:=by rw[<- c];unfold Qi;rw[if_pos h]
  rw[<- e];exact c1
 have F2: ∀ nb,nb=(decide (n=0) && !decide (s=[]))->k=2->CallL Tryz.prog (.func (.func 118) [] [.ptr 0 0,.ptr 1 0]) [] [(0,.cells [.bool nb]),(1,.cells (tC k n s a))] λr o=>r=.bool B/\o=[(0,.cells [.bool nb]),(1,.cells (tC k n s a))]:=λnb b h=>by
  have e:(nb && Lx.Qm s && decide (a.length=0))=B:=by rw[<- c,b,d _ v];unfold Qi;rw[h];rfl
  rw[<- e];exact c2 nb
 have F3: ∀ nb,nb=(decide (n=0) && !decide (s=[]))->k=3->CallL Tryz.prog (.func (.func 120) [] [.ptr 0 0,.ptr 1 0]) [] [(0,.cells [.bool nb]),(1,.cells (tC k n s a))] λr o=>r=.bool B/\o=[(0,.cells [.bool nb]),(1,.cells (tC k n s a))]:=λnb b h=>by
  have e:(nb && Lx.Zk s && decide (a.length=0))=B:=by rw[<- c,b,d _ va];unfold Qi;rw[h];rfl
  rw[<- e];exact c3 nb
 have F4: ∀ nb,nb=(decide (n=0) && !decide (s=[]))->k=4->CallL Tryz.prog (.func (.func 121) [] [.ptr 0 0,.ptr 1 0]) [] [(0,.cells [.bool nb]),(1,.cells (tC k n s a))] λr o=>r=.bool B/\o=[(0,.cells [.bool nb]),(1,.cells (tC k n s a))]:=λnb b h=>by
  have e:(nb && Lx.Qm s && (decide (1<=a.length) && decide (a.length<=8)))=B:=by rw[<- c,b,d _ v];unfold Qi;rw[h];simp only[<- Bool.and_assoc];rfl
  rw[<- e];exact p nb
 have F5: ∀ nb ob,nb=(decide (n=0) && !decide (s=[]))->ob=(Lib.contains [43,45,42,47,92] s && decide ((s.length:Int)=1))->k=5->CallL Tryz.prog (.func (.func 122) [] [.ptr 0 0,.ptr 1 0,.ptr 2 0]) [] [(0,.cells [.bool nb]),(1,.cells [.bool ob]),(2,.cells (tC k n s a))] λr o=>r=.bool B/\o=[(0,.cells [.bool nb]),(1,.cells [.bool ob]),(2,.cells (tC k n s a))]:=λnb ob b w h=>by
  have e:(nb && ob && (decide (a.length=2) ||decide (s=[45]) && decide (a.length=1)))=B:=by rw[<- c,b,w,d _ m,l];unfold Qi;rw[h];rfl
  rw[<- e];exact c5 nb ob
 have F6:k=6->CallL Tryz.prog (.func (.func 123) [] [.ptr 0 0]) [] [(0,.cells (tC k n s a))] λr o=>r=.bool B/\o=[(0,.cells (tC k n s a))]:=λh=>by
  have e:(decide (n=0) && decide (s=[]) && decide (a.length=2))=B:=by rw[<- c];unfold Qi;rw[h];rfl
  rw[<- e];exact q
 have F0: ¬ k=1-> ¬ k=2-> ¬ k=3-> ¬ k=4-> ¬ k=5-> ¬ k=6->false=B:=λh1 h2 f g i j=>by rw[<- c];unfold Qi;rw[if_neg h1,if_neg h2,if_neg f,if_neg g,if_neg i,if_neg j]
 generalize Lib.contains [43,45,42,47,92] s=y at hc F5;refine FnOK.tree Z3 fp86 (Z9 (Z63 (.bool B))) (Zsp k n s a y B) ?_;cases b:decide (n=0)<;>rw[b] at F2 F3 F4 F5<;>cases y;all_goals
  simp only[ZL,Zx];simp only[Zs,Z4,Z7,decide_eq_true_eq,decide_eq_false_iff_not];exact⟨hc,λh=>⟨F1 h,trivial⟩,λh1=>⟨λh=>⟨F2 _ rfl h,trivial⟩,λh2=>⟨λh=>⟨F3 _ rfl h,trivial⟩,λf=>⟨λh=>⟨F4 _ rfl h,trivial⟩,λg=>⟨λh=>⟨F5 _ _ rfl rfl h,trivial⟩,λi=>⟨λh=>⟨F6 h,trivial⟩,λj=>by rw[F0 h1 h2 f g i j]⟩⟩⟩⟩⟩⟩
def DepP (x:Tm):Prop:=FK 84 [.agg x.cells] (.int .i64 x.depth)
theorem Zs1 {l:List Tm} {i:Nat} (h:i<l.length):(Tm.cellsL l)[i]? = some l[i].cells:=by rw[Zn];simp[h]
theorem ZrK (l:List Tm) (hl:l.length<=281474976710656) (H: ∀ x∈l,DepP x) (o: ∀ x∈l,x.depth<=1000000000): ∀ (m i d:Nat),l.length-i=m->i<=l.length->d<=1000000000 →
  At Tryz.prog 0 (cut sc84 0) (hdDe (Tm.cellsL l) l.length d i) (FinQ true 0 rs84 λr _=>r=.int .i64 (((Nat.max d (Tm.depthL (l.drop i)))+1:Nat):Int)):=by
 intro m;induction m with
 |zero =>
  intro i d hm hi a;refine At.tree (Z9 Z0) (Zan (Tm.cellsL l) l.length d i 0 0 [] [] 0 0) ?_;rw[List.drop_eq_nil_of_le (by omega)];simp only[SS,Z5];refine⟨λh=>by omega,λ_=>⟨by omega,?_⟩⟩;simp[Tm.depthL]
 |succ m p =>
  intro i d hm hi a;have h1:i<l.length:=by omega
  have hx:=Zs1 h1;have b:=H _ (List.getElem_mem h1);have g:=o _ (List.getElem_mem h1);have e:l.drop i=l[i]::l.drop (i+1):=List.drop_eq_getElem_cons h1;rw[e];simp only[Tm.depthL];unfold DepP at b;generalize Tm.depth l[i]=c at b g ⊢;have f:=p (i+1) (Nat.max d c) (by omega) (by omega) (Nat.max_le.2 ⟨a,g⟩);have k:Nat.max (Nat.max d c) (Tm.depthL (l.drop (i+1)))=Nat.max d (Nat.max c (Tm.depthL (l.drop (i+1)))):=Nat.max_assoc ..;rw[k] at f;have n:(if (c:Int) > (d:Int) then (c:Int) else (d:Int))=((Nat.max d c:Nat):Int):=by
   have:Nat.max d c=max d c:=rfl;rw[this];split<;>omega
  generalize l[i]=x at hx b;obtain⟨q,nx,s,j⟩:=x;refine At.tree (Z9 Z0) (Zan (Tm.cellsL l) l.length d i q nx s (Tm.cellsL j) c (Nat.max d c:Nat)) ?_;simp only[SS,Z5,if_true,n];exact⟨λ_=>⟨⟨by omega,hx⟩,b,by omega,f⟩,λh=>by omega⟩
end Go.Proofs.YtaclfbhhekhflaaGreatDoor
/- Valid;the text of a number. -/
namespace Go.Proofs.YtaclfbhhekhflaaGreatDoor
open Go.Sx
theorem ZhW: ∀ x:Tm,x.wf 281474976710656->x.depth<=1000000000->DepP x
 |.mk k n s l,hx,d=>by
  simp only[Tm.wf] at hx;obtain⟨hk,g,h,hs,hl,f⟩:=hx;simp only[Tm.depth] at d;have b: ∀ x∈l,x.depth<=Tm.depthL l:=by
   clear hl f d;induction l with
   |nil=>intro x hx;cases hx
   |cons a r i =>
    intro x hx;simp only[Tm.depthL];rcases List.mem_cons.1 hx with rfl|hx
    ·exact Nat.le_max_left ..
    ·exact Nat.le_trans (i x hx) (Nat.le_max_right ..)
  have c:=ZrK l hl (λx hx=>ZhW x (Qe.1 f x hx) (Nat.le_trans (b x hx) (by omega))) (λx hx=>Nat.le_trans (b x hx) (by omega)) _ 0 0 rfl (Nat.zero_le _) (Nat.zero_le _);refine FnOK.tree Z3 fp84 (Z9 Z0) (ZmT k n s (Tm.cellsL l)) ?_;rw[Z6,Z5];have e:Nat.max 0 (Tm.depthL (l.drop 0))=Tm.depthL l:=Nat.zero_max _;rw[e] at c;exact c
termination_by x=>SizeOf.sizeOf x
decreasing_by
 have:=List.sizeOf_lt_of_mem hx;simp only[Tm.mk.sizeOf_spec];omega
theorem Ztf (k n:Int) (s:LU) (a:LD) (b:Bool):gC (dCtr [(5,dB b)]) 0 rs85 sc85 [] [dA (tC k n s a)] [] []=(Ow (FK 86 [dA [dU k,dI n,dS s,dL a []]] (dB b)) (Rt (dB b) []):Tr):=by kernel_rfl
theorem Zbz (x:Tm) (hx:x.wf 281474976710656):CF 85 [.agg x.cells] [] λr ob=>r=.bool x.shape/\ob=[]:=by
 obtain⟨k,n,s,l⟩:=x;simp only[Tm.wf] at hx;have h:=ZfC k n s (Tm.cellsL l) (by omega);rw[Z5] at h;simp only[Tm.shape];generalize Qi k n s l.length=b at h ⊢;refine CallL.tree Z3 fp85 (Z9 Z0) (Ztf k n s (Tm.cellsL l) b) ?_;rw[Z4,Z7];exact⟨h,rfl,rfl⟩
theorem Zmi (k n:Int) (s:LU) (a:LD) (d:Int) (b:Bool):let A:=[dU k,dI n,dS s,dL a []];gP (dCtr [(4,dI d)] [] (asmK (dB b))) rs56 sc56 [dA (tC k n s a)]=(Ow (FK 84 [dA A] (dI d)) (brT (decide (d<=(12:Int))) (Ow (CF 55 [dA A,dF 85 [] []] [] λr0 o=>r0=dB b/\o=[]) (Rt (dB b) [])) (Rt (dB false) [])):Tr):=by intro A;kernel_rfl
theorem Z8S (x:Tm) (hx:x.wf 281474976710656) (c:x.depth<=1000000000):FK 56 [.agg x.cells] (.bool x.valid):=by
 have h1:=ZhW x hx c;have h2:=Z5P (h:=Tm.shape) Zbz x hx;unfold DepP at h1;unfold Tm.valid;have a:decide (x.depth<=12)=decide ((x.depth:Int)<=12):=by rw[Bool.eq_iff_iff];simp;omega
 rw[a];generalize x.all Tm.shape=b at h2 ⊢;generalize (x.depth:Int)=d at h1 ⊢;obtain⟨k,n,s,l⟩:=x;refine FnOK.tree Z3 fp56 (Z9 (Z63 (.bool b))) (Zmi k n s (Tm.cellsL l) d b) ?_;rw[Z4,Zs,Z4,Z7,Z7];refine⟨h1,λh=>⟨h2,by rw[h,Bool.true_and]⟩,λh=>by rw[h,Bool.false_and]⟩
end Go.Proofs.YtaclfbhhekhflaaGreatDoor
/- Value,Ground. -/
namespace Go.Proofs.YtaclfbhhekhflaaGreatDoor
open Go.Sx
theorem Zhe (k n:Int) (s:LU) (a:LD):let A:=Rt (dB true) [];gC (dCtr []) 0 rs54 sc54 [] [dA (tC k n s a)] [] []=(brT (decide (k=(1:Int))) A (brT (decide (k=(2:Int))) A (Rt (dB (decide (k=(4:Int)))) [])):Tr):=by intro A;kernel_rfl
theorem ZnN (k n:Int) (s:LU) (a:LD):gC (dCtr []) 0 rs61 sc61 [] [dA (tC k n s a)] [] []=(Rt (D.bool !decide (k=(3:Int))) []:Tr):=by kernel_rfl
theorem Zmg (k n:Int) (s:LU) (a:LD) (b v:Bool):let A:=[dU k,dI n,dS s,dL a []];gP (dCtr [(9,dB v)] [] (asmK (dB b))) rs33 sc33 [dA (tC k n s a)]=(Ow (CF 55 [dA A,dF 54 [] []] [] λr0 o=>r0=dB b/\o=[]) (brT b (Ow (FK 56 [dA A] (dB v)) (Rt (dB v) [])) (Rt (dB false) [])):Tr):=by intro A;kernel_rfl
theorem Zsv (k n:Int) (s:LU) (a:LD) (b:Bool):gP (dCtr [] [] (asmK (dB b))) rs37 sc37 [dA (tC k n s a)]=(Ow (CF 55 [dA [dU k,dI n,dS s,dL a []],dF 61 [] []] [] λr0 o=>r0=dB b/\o=[]) (Rt (dB b) []):Tr):=by kernel_rfl
theorem Zby (x:Tm) (hx:x.wf 281474976710656):CF 54 [.agg x.cells] [] λr ob=>r=.bool x.plain/\ob=[]:=by
 obtain⟨k,n,s,l⟩:=x;refine CallL.tree Z3 fp54 (Z9 Z0) (Zhe k n s (Tm.cellsL l)) ?_;have a:decide ((k:Int)=1)=decide (k=1):=by rw[Bool.eq_iff_iff];simp;omega
 have b:decide ((k:Int)=2)=decide (k=2):=by rw[Bool.eq_iff_iff];simp;omega
 have c:decide ((k:Int)=4)=decide (k=4):=by rw[Bool.eq_iff_iff];simp;omega
 simp only[Zs,Z7,Tm.plain,a,b,c];exact⟨λh=>⟨by rw[h];rfl,by first|rfl|trivial⟩,λh=>⟨λh2=>⟨by rw[h2,h];rfl,by first|rfl|trivial⟩,λh2=>⟨by rw[h2,h];rfl,by first|rfl|trivial⟩⟩⟩
theorem Zb2 (x:Tm) (hx:x.wf 281474976710656):CF 61 [.agg x.cells] [] λr ob=>r=.bool x.gr/\ob=[]:=by
 obtain⟨k,n,s,l⟩:=x;refine CallL.tree Z3 fp61 (Z9 Z0) (ZnN k n s (Tm.cellsL l)) ?_;have a:decide ((k:Int)=3)=decide (k=3):=by rw[Bool.eq_iff_iff];simp;omega
 rw[Z7,a];exact⟨rfl,rfl⟩
theorem Z6N (x:Tm) (hx:x.wf 281474976710656):FK 37 [.agg x.cells] (.bool (x.all Tm.gr)):=by
 have h2:=Z5P (h:=Tm.gr) Zb2 x hx;generalize x.all Tm.gr=b at h2 ⊢;obtain⟨k,n,s,l⟩:=x;refine FnOK.tree Z3 fp37 (Z9 (Z63 (.bool b))) (Zsv k n s (Tm.cellsL l) b) ?_;rw[Z4,Z7];exact⟨h2,rfl⟩
theorem Z8R (x:Tm) (hx:x.wf 281474976710656) (a:x.depth<=1000000000):FK 33 [.agg x.cells] (.bool (x.all Tm.plain && x.valid)):=by
 have h1:=Z8S x hx a;have h2:=Z5P (h:=Tm.plain) Zby x hx;generalize x.all Tm.plain=b at h2 ⊢;generalize x.valid=v at h1 ⊢;obtain⟨k,n,s,l⟩:=x;refine FnOK.tree Z3 fp33 (Z9 (Z63 (.bool b))) (Zmg k n s (Tm.cellsL l) b v) ?_;rw[Z4,Zs,Z4,Z7,Z7];exact⟨h2,λh=>⟨h1,by rw[h,Bool.true_and]⟩,λh=>by rw[h,Bool.false_and]⟩
end Go.Proofs.YtaclfbhhekhflaaGreatDoor
