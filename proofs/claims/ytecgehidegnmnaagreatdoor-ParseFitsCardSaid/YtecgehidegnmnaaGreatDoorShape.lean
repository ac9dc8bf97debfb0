/- Own work: a layer over the kit: plain data,a walk over it,its soundness. -/
import Derived.Lib.IndexMore
import Derived.Test.YtecgehidegnmnaaGreatDoorPrB
import Derived.Test.YtecgehidegnmnaaGreatDoorPrA
set_option linter.all false
set_option maxRecDepth 100000
/- Depth,shape. -/
namespace Go.Proofs.YtecgehidegnmnaaGreatDoor
open Go.Sx
def dCtr (l:List (Nat × D)) (e:List (Nat × List D):=[]) (q:QT:=Z0e):Ctr:=⟨λt f a=>match lk l t with|some r=>some (.ok (FK f a r) r [])|none=>none,λ_=>q,λt _=>(lk e t).getD []⟩
theorem QN {l:List (Nat × D)} {e:List (Nat × List D)} {q:QT} (a:q.OK):(dCtr l e q).OK Tryz.prog:=by
 refine⟨λt f b rt h=>?_,λ_=>a⟩;simp only[dCtr] at h;split at h
 ·cases h;exactλhp=>hp
 ·cases h
def asmK (r:D):QT:=λd xs ob=>some (.ok (CallL Tryz.prog d xs ob λr0 o=>r0=r/\o=ob) r ob)
theorem Zav (r:D):(asmK r).OK:=by intro d xs ob rt h;cases h;exactλhp=>hp
theorem ZgW (k n:Int) (s:LU) (a:LD):gP (dCtr []) rs43 sc43 [dA (tC k n s a)]=(Jm (cut sc43 0) {tm:=[(3,dI 0),(7,dL a []),(8,dI (↑(List.length a):Int)),(9,dI 0)],ob:=[]}:Tr):=by kernel_rfl
def hdDe (a:LD) (m d i:Int):St:=⟨[(3,.int .i64 d),(7,.slice a []),(8,.int .i64 m),(9,.int .i64 i)],[]⟩
theorem Z7k (a:LD) (m d i e nx:Int) (f:LU) (b:LD) (c q:Int):gH (dCtr [(15,dI c)] [(11,tC e nx f b),(16,[dI q])]) 0 true rs43 (cut sc43 0) (hdDe a m d i)=(brT (decide (i<m)) (Ow ((0:Int)<=i/\a[Int.toNat i]? = some (tC e nx f b)) (Ow (FK 43 [dA (tC e nx f b)] (dI c)) (Ow (IntKind.i64=IntKind.i64/\(if true=true then if c > d then c else d else if c<d then c else d)=q) (I8 (i+(1:Int)) (Jm (cut sc43 0) {tm:=[(3,dI q),(7,dL a []),(8,dI m),(9,dI (i+(1:Int)))],ob:=[]}))))) (I8 (d+(1:Int)) (Rt (dI (d+(1:Int))) [])):Tr):=by kernel_rfl
theorem Zh5 (k n:Int) (s:LU) (a:LD) (lo hi:Int):let A:=(↑(List.length a):Int);gP (dCtr []) rs81 sc81 [dA (tC k n s a),dI lo,dI hi]=(brT (decide (lo<=A)) (Rt (dB (decide (A<=hi))) []) (Rt (dB false) []):Tr):=by intro A;kernel_rfl
theorem Zkv (k n:Int) (s:LU) (a:LD) (b:Bool):let A:=[(0,oC (tC k n s a))];let B:=Rt (dB false) A;gC (dCtr [(20,dB b)]) 1 rs80 sc80 [] [] [dP 0 0] A=(brT (decide ((-2147483647:Int)<=n)) (brT (decide (n<=(2147483647:Int))) (brT (decide (s=[])) (Ow (FK 81 [dA (tC k n s a),dI 0,dI 0] (dB b)) (Rt (dB b) A)) B) B) B:Tr):=by intro A B;kernel_rfl
theorem Zku (k n:Int) (s:LU) (a:LD) (nb y b:Bool):let A:=[(0,oC [dB nb]),(1,oC (tC k n s a))];let B:=Rt (dB false) A;gC (dCtr [(8,dB y),(12,dB b)]) 2 rs82 sc82 [] [] [dP 0 0,dP 1 0] A=(brT nb (Ow (FK 16 [dS s] (dB y)) (brT y (Ow (FK 81 [dA (tC k n s a),dI 0,dI 0] (dB b)) (Rt (dB b) A)) B)) B:Tr):=by intro A B;kernel_rfl
theorem Zkt (k n:Int) (s:LU) (a:LD) (nb y b:Bool):let A:=[(0,oC [dB nb]),(1,oC (tC k n s a))];let B:=Rt (dB false) A;gC (dCtr [(8,dB y),(12,dB b)]) 2 rs83 sc83 [] [] [dP 0 0,dP 1 0] A=(brT nb (Ow (FK 84 [dS s] (dB y)) (brT y (Ow (FK 81 [dA (tC k n s a),dI 0,dI 0] (dB b)) (Rt (dB b) A)) B)) B:Tr):=by intro A B;kernel_rfl
theorem Zks (k n:Int) (s:LU) (a:LD) (nb y b:Bool):let A:=[(0,oC [dB nb]),(1,oC (tC k n s a))];let B:=Rt (dB false) A;gC (dCtr [(8,dB y),(12,dB b)]) 2 rs85 sc85 [] [] [dP 0 0,dP 1 0] A=(brT nb (Ow (FK 16 [dS s] (dB y)) (brT y (Ow (FK 81 [dA (tC k n s a),dI 1,dI 8] (dB b)) (Rt (dB b) A)) B)) B:Tr):=by intro A B;kernel_rfl
theorem Zkr (k n:Int) (s:LU) (a:LD) (nb ob c b:Bool):let A:=[(0,oC [dB nb]),(1,oC [dB ob]),(2,oC (tC k n s a))];let B:=Rt (dB false) A;let C:=tC k n s a;gC (dCtr [(10,dB c),(18,dB b)]) 3 rs86 sc86 [] [] [dP 0 0,dP 1 0,dP 2 0] A=(brT nb (brT ob (Ow (FK 81 [dA C,dI 2,dI 2] (dB c)) (brT c (Rt (dB true) A) (brT (decide (s=[(45:UInt8)])) (Ow (FK 81 [dA C,dI 1,dI 1] (dB b)) (Rt (dB b) A)) B))) B) B:Tr):=by intro A B C;kernel_rfl
theorem Zkq (k n:Int) (s:LU) (a:LD) (b:Bool):let A:=[(0,oC (tC k n s a))];let B:=Rt (dB false) A;gC (dCtr [(14,dB b)]) 1 rs87 sc87 [] [] [dP 0 0] A=(brT (decide (n=(0:Int))) (brT (decide (s=[])) (Ow (FK 81 [dA (tC k n s a),dI 2,dI 2] (dB b)) (Rt (dB b) A)) B) B:Tr):=by intro A B;kernel_rfl
theorem ZjT (k n:Int) (s:LU) (a:LD) (y b:Bool):let A:=tC k n s a;let B:=Rt (dB b) [];let C:=[(0,oC [dB false]),(1,oC A)];let E:=[dP 0 0,dP 1 0];let F:=[(0,oC A)];let G:=dF 86 [] [dP 0 0,dP 1 0,dP 2 0];let H:=(↑(List.length s):Int);let I:=[dB false];let J:=dF 80 [] [dP 0 0];let K:=dF 87 [] [dP 0 0];let L:=Rt (dB false) [];let M:=FK 79 [dS [43,45,42,47,92],dS s] (dB y);let N:=dF 82 [] E;let O:=dF 83 [] E;let P:=dF 85 [] E;let Q:=[(0,oC I),(1,oC I),(2,oC A)];gP (dCtr [(20,dB y)] [] (asmK (dB b))) rs46 sc46 [dA A]=(brT (decide (n=(0:Int))) (Ow M (brT y (brT (decide (k=(1:Int))) (Ow (CallL Tryz.prog J [] F λr0 o=>r0=dB b/\o=F) B) (brT (decide (k=(2:Int))) (Ow (CallL Tryz.prog N [] [(0,oC [D.bool !decide (s=[])]),(1,oC A)] λr0 o=>r0=dB b/\o=[(0,oC [D.bool !decide (s=[])]),(1,oC A)]) B) (brT (decide (k=(3:Int))) (Ow (CallL Tryz.prog O [] [(0,oC [D.bool !decide (s=[])]),(1,oC A)] λr0 o=>r0=dB b/\o=[(0,oC [D.bool !decide (s=[])]),(1,oC A)]) B) (brT (decide (k=(4:Int))) (Ow (CallL Tryz.prog P [] [(0,oC [D.bool !decide (s=[])]),(1,oC A)] λr0 o=>r0=dB b/\o=[(0,oC [D.bool !decide (s=[])]),(1,oC A)]) B) (brT (decide (k=(5:Int))) (Ow (CallL Tryz.prog G [] [(0,oC [D.bool !decide (s=[])]),(1,oC [dB (decide (H=(1:Int)))]),(2,oC A)] λr0 o=>r0=dB b/\o=[(0,oC [D.bool !decide (s=[])]),(1,oC [dB (decide (H=(1:Int)))]),(2,oC A)]) B) (brT (decide (k=(6:Int))) (Ow (CallL Tryz.prog K [] F λr0 o=>r0=dB b/\o=F) B) L)))))) (brT (decide (k=(1:Int))) (Ow (CallL Tryz.prog J [] F λr0 o=>r0=dB b/\o=F) B) (brT (decide (k=(2:Int))) (Ow (CallL Tryz.prog N [] [(0,oC [D.bool !decide (s=[])]),(1,oC A)] λr0 o=>r0=dB b/\o=[(0,oC [D.bool !decide (s=[])]),(1,oC A)]) B) (brT (decide (k=(3:Int))) (Ow (CallL Tryz.prog O [] [(0,oC [D.bool !decide (s=[])]),(1,oC A)] λr0 o=>r0=dB b/\o=[(0,oC [D.bool !decide (s=[])]),(1,oC A)]) B) (brT (decide (k=(4:Int))) (Ow (CallL Tryz.prog P [] [(0,oC [D.bool !decide (s=[])]),(1,oC A)] λr0 o=>r0=dB b/\o=[(0,oC [D.bool !decide (s=[])]),(1,oC A)]) B) (brT (decide (k=(5:Int))) (Ow (CallL Tryz.prog G [] [(0,oC [D.bool !decide (s=[])]),(1,oC I),(2,oC A)] λr0 o=>r0=dB b/\o=[(0,oC [D.bool !decide (s=[])]),(1,oC I),(2,oC A)]) B) (brT (decide (k=(6:Int))) (Ow (CallL Tryz.prog K [] F λr0 o=>r0=dB b/\o=F) B) L)))))))) (Ow M (brT y (brT (decide (k=(1:Int))) (Ow (CallL Tryz.prog J [] F λr0 o=>r0=dB b/\o=F) B) (brT (decide (k=(2:Int))) (Ow (CallL Tryz.prog N [] C λr0 o=>r0=dB b/\o=C) B) (brT (decide (k=(3:Int))) (Ow (CallL Tryz.prog O [] C λr0 o=>r0=dB b/\o=C) B) (brT (decide (k=(4:Int))) (Ow (CallL Tryz.prog P [] C λr0 o=>r0=dB b/\o=C) B) (brT (decide (k=(5:Int))) (Ow (CallL Tryz.prog G [] [(0,oC I),(1,oC [dB (decide (H=(1:Int)))]),(2,oC A)] λr0 o=>r0=dB b/\o=[(0,oC I),(1,oC [dB (decide (H=(1:Int)))]),(2,oC A)]) B) (brT (decide (k=(6:Int))) (Ow (CallL Tryz.prog K [] F λr0 o=>r0=dB b/\o=F) B) L)))))) (brT (decide (k=(1:Int))) (Ow (CallL Tryz.prog J [] F λr0 o=>r0=dB b/\o=F) B) (brT (decide (k=(2:Int))) (Ow (CallL Tryz.prog N [] C λr0 o=>r0=dB b/\o=C) B) (brT (decide (k=(3:Int))) (Ow (CallL Tryz.prog O [] C λr0 o=>r0=dB b/\o=C) B) (brT (decide (k=(4:Int))) (Ow (CallL Tryz.prog P [] C λr0 o=>r0=dB b/\o=C) B) (brT (decide (k=(5:Int))) (Ow (CallL Tryz.prog G [] Q λr0 o=>r0=dB b/\o=Q) B) (brT (decide (k=(6:Int))) (Ow (CallL Tryz.prog K [] F λr0 o=>r0=dB b/\o=F) B) L)))))))):Tr):=by intro A B C E F G H I J K L M N O P Q;kernel_rfl
theorem Z3f (k n:Int) (s:LU) (a:LD) (lo hi:Int):FK 81 [.agg (tC k n s a),.int .i64 lo,.int .i64 hi] (.bool (decide (lo<=(a.length:Int)) && decide ((a.length:Int)<=hi))):=by
 refine FnOK.tree Z5 fp81 (QN Z8) (Zh5 k n s a lo hi) ?_;cases h:decide (lo<=(a.length:Int))<;>simp[brT,Zn]
theorem ZjB (k n:Int) (s:LU) (a:LD):CallL Tryz.prog (.func (.func 80) [] [.ptr 0 0]) [] [(0,.cells (tC k n s a))] λr o=>r=.bool (decide (-2147483647<=n) && decide (n<=2147483647) && decide (s=[]) && (decide ((0:Int)<=(a.length:Int)) && decide ((a.length:Int)<=0)))/\o=[(0,.cells (tC k n s a))]:=by
 have ha:=Z3f k n s a 0 0;generalize (decide ((0:Int)<=(a.length:Int)) && decide ((a.length:Int)<=0))=b at ha ⊢;refine CallL.tree Z5 fp80 (QN Z8) (Zkv k n s a b) ?_;simp only[Qw,Zs,Zn];exact⟨λh1=>⟨λh2=>⟨λc=>⟨ha,by rw[h1,h2,c];rfl,by first|rfl|trivial⟩,λc=>⟨by rw[h1,h2,c];rfl,by first|rfl|trivial⟩⟩,λh2=>⟨by rw[h1,h2];rfl,by first|rfl|trivial⟩⟩,λh1=>⟨by rw[h1];rfl,by first|rfl|trivial⟩⟩
theorem ZjA (k n:Int) (s:LU) (a:LD) (nb:Bool) (hs:s.length<=4611686018427387904):CallL Tryz.prog (.func (.func 82) [] [.ptr 0 0,.ptr 1 0]) [] [(0,.cells [.bool nb]),(1,.cells (tC k n s a))] λr o=>r=.bool (nb && Lx.ZM s && (decide ((0:Int)<=(a.length:Int)) && decide ((a.length:Int)<=0)))/\o=[(0,.cells [.bool nb]),(1,.cells (tC k n s a))]:=by
 have ha:=Z3f k n s a 0 0;have c:=Z0T s hs;generalize (decide ((0:Int)<=(a.length:Int)) && decide ((a.length:Int)<=0))=b at ha ⊢;generalize Lx.ZM s=y at c ⊢;refine CallL.tree Z5 fp82 (QN Z8) (Zku k n s a nb y b) ?_;cases nb
 ·rw[Q8,Zn];exact⟨rfl,rfl⟩
 ·rw[QF,Zs];refine⟨c,?_⟩;cases y
  ·rw[Q8,Zn];exact⟨rfl,rfl⟩
  ·rw[QF,Zs,Zn];exact⟨ha,rfl,rfl⟩
theorem Zjz (k n:Int) (s:LU) (a:LD) (nb:Bool) (hs:s.length<=4611686018427387904):CallL Tryz.prog (.func (.func 83) [] [.ptr 0 0,.ptr 1 0]) [] [(0,.cells [.bool nb]),(1,.cells (tC k n s a))] λr o=>r=.bool (nb && Lx.ZW s && (decide ((0:Int)<=(a.length:Int)) && decide ((a.length:Int)<=0)))/\o=[(0,.cells [.bool nb]),(1,.cells (tC k n s a))]:=by
 have ha:=Z3f k n s a 0 0;have c:=Z2C s hs;generalize (decide ((0:Int)<=(a.length:Int)) && decide ((a.length:Int)<=0))=b at ha ⊢;generalize Lx.ZW s=y at c ⊢;refine CallL.tree Z5 fp83 (QN Z8) (Zkt k n s a nb y b) ?_;cases nb
 ·rw[Q8,Zn];exact⟨rfl,rfl⟩
 ·rw[QF,Zs];refine⟨c,?_⟩;cases y
  ·rw[Q8,Zn];exact⟨rfl,rfl⟩
  ·rw[QF,Zs,Zn];exact⟨ha,rfl,rfl⟩
theorem Zjy (k n:Int) (s:LU) (a:LD) (nb:Bool) (hs:s.length<=4611686018427387904):CallL Tryz.prog (.func (.func 85) [] [.ptr 0 0,.ptr 1 0]) [] [(0,.cells [.bool nb]),(1,.cells (tC k n s a))] λr o=>r=.bool (nb && Lx.ZM s && (decide ((1:Int)<=(a.length:Int)) && decide ((a.length:Int)<=8)))/\o=[(0,.cells [.bool nb]),(1,.cells (tC k n s a))]:=by
 have ha:=Z3f k n s a 1 8;have c:=Z0T s hs;generalize (decide ((1:Int)<=(a.length:Int)) && decide ((a.length:Int)<=8))=b at ha ⊢;generalize Lx.ZM s=y at c ⊢;refine CallL.tree Z5 fp85 (QN Z8) (Zks k n s a nb y b) ?_;cases nb
 ·rw[Q8,Zn];exact⟨rfl,rfl⟩
 ·rw[QF,Zs];refine⟨c,?_⟩;cases y
  ·rw[Q8,Zn];exact⟨rfl,rfl⟩
  ·rw[QF,Zs,Zn];exact⟨ha,rfl,rfl⟩
theorem Zjx (k n:Int) (s:LU) (a:LD) (nb ob:Bool):CallL Tryz.prog (.func (.func 86) [] [.ptr 0 0,.ptr 1 0,.ptr 2 0]) [] [(0,.cells [.bool nb]),(1,.cells [.bool ob]),(2,.cells (tC k n s a))] λr o=>r=.bool (nb && ob && ((decide ((2:Int)<=(a.length:Int)) && decide ((a.length:Int)<=2)) ||decide (s=[45]) && (decide ((1:Int)<=(a.length:Int)) && decide ((a.length:Int)<=1))))/\o=[(0,.cells [.bool nb]),(1,.cells [.bool ob]),(2,.cells (tC k n s a))]:=by
 have ha:=Z3f k n s a 2 2;have c:=Z3f k n s a 1 1;generalize (decide ((2:Int)<=(a.length:Int)) && decide ((a.length:Int)<=2))=b at ha ⊢;generalize (decide ((1:Int)<=(a.length:Int)) && decide ((a.length:Int)<=1))=d at c ⊢;refine CallL.tree Z5 fp86 (QN Z8) (Zkr k n s a nb ob b d) ?_;cases nb
 ·rw[Q8,Zn];exact⟨rfl,rfl⟩
 ·rw[QF];cases ob
  ·rw[Q8,Zn];exact⟨rfl,rfl⟩
  ·rw[QF,Zs];refine⟨ha,?_⟩;cases b
   ·simp only[Q8,Qw,Zs,Zn];exact⟨λh=>⟨c,by rw[h];rfl,by first|rfl|trivial⟩,λh=>⟨by rw[h];rfl,by first|rfl|trivial⟩⟩
   ·rw[QF,Zn];exact⟨rfl,rfl⟩
theorem Zjw (k n:Int) (s:LU) (a:LD):CallL Tryz.prog (.func (.func 87) [] [.ptr 0 0]) [] [(0,.cells (tC k n s a))] λr o=>r=.bool (decide (n=0) && decide (s=[]) && (decide ((2:Int)<=(a.length:Int)) && decide ((a.length:Int)<=2)))/\o=[(0,.cells (tC k n s a))]:=by
 have ha:=Z3f k n s a 2 2;generalize (decide ((2:Int)<=(a.length:Int)) && decide ((a.length:Int)<=2))=b at ha ⊢;refine CallL.tree Z5 fp87 (QN Z8) (Zkq k n s a b) ?_;simp only[Qw,Zs,Zn];exact⟨λh1=>⟨λh2=>⟨ha,by rw[h1,h2];rfl,by first|rfl|trivial⟩,λh2=>⟨by rw[h1,h2];rfl,by first|rfl|trivial⟩⟩,λh1=>⟨by rw[h1];rfl,by first|rfl|trivial⟩⟩
theorem Zcb:((List.range 256).all λc=>Lib.contains [43,45,42,47,92] [UInt8.ofNat c] == (decide ([UInt8.ofNat c]=[43]) ||decide ([UInt8.ofNat c]=[45]) ||decide ([UInt8.ofNat c]=[42]) ||decide ([UInt8.ofNat c]=[47]) ||decide ([UInt8.ofNat c]=[92])))=true:=by kernel_rfl
theorem Zfw (s:LU):(Lib.contains [43,45,42,47,92] s && decide ((s.length:Int)=1))=(decide (s=[43]) ||decide (s=[45]) ||decide (s=[42]) ||decide (s=[47]) ||decide (s=[92])):=by
 by_cases h:s.length=1
 ·match s,h with
  |[c],_ =>
   have:=List.all_eq_true.1 Zcb c.toNat (List.mem_range.2 c.toNat_lt);rw[beq_iff_eq] at this;simp only[UInt8.ofNat_toNat] at this;rw[this];simp
 ·have h1: ¬ ((s.length:Int)=1):=by omega
  have h2: ∀ c:UInt8,s≠[c]:=λc e=>h (by rw[e];rfl);simp[h1,h2]
theorem Zbm (k n:Int) (s:LU) (a:LD) (hs:s.length<=4611686018427387904):FK 46 [.agg (tC k n s a)] (.bool (Qz k n s a.length)):=by
 have hc:FK 79 [.str [43,45,42,47,92],.str s] (.bool (Lib.contains [43,45,42,47,92] s)):=by
  have:=Z3 79 [.str [43,45,42,47,92],.str s] _ rfl;exact this (by decide)
 have l:=Zfw s;have t:(decide ((0:Int)<=(a.length:Int)) && decide ((a.length:Int)<=0))=decide (a.length=0):=by rw[Bool.eq_iff_iff];simp
 have u:(decide ((2:Int)<=(a.length:Int)) && decide ((a.length:Int)<=2))=decide (a.length=2):=by rw[Bool.eq_iff_iff];simp;omega
 have x:(decide ((1:Int)<=(a.length:Int)) && decide ((a.length:Int)<=1))=decide (a.length=1):=by rw[Bool.eq_iff_iff];simp;omega
 have z:(decide ((1:Int)<=(a.length:Int)) && decide ((a.length:Int)<=8))=(decide (1<=a.length) && decide (a.length<=8)):=by rw[Bool.eq_iff_iff];simp;omega
 have d: ∀ y:Bool,(y=true->s≠[])->(decide (n=0) && !decide (s=[]) && y)=(decide (n=0) && y):=λy h=>by
  cases y
  ·simp
  ·simp[h rfl]
 have v:Lx.ZM s=true->s≠[]:=λh e=>by rw[e] at h;exact absurd h (by decide)
 have va:Lx.ZW s=true->s≠[]:=λh e=>by rw[e] at h;exact absurd h (by decide)
 have m:(Lib.contains [43,45,42,47,92] s && decide ((s.length:Int)=1))=true->s≠[]:=λh e=>by rw[e] at h;simp at h
 have c1:=ZjB k n s a;have c2:=λnb=>ZjA k n s a nb hs;have c3:=λnb=>Zjz k n s a nb hs;have p:=λnb=>Zjy k n s a nb hs;have c5:=λnb ob=>Zjx k n s a nb ob;have q:=Zjw k n s a;rw[t] at c1;simp only[t] at c2 c3;simp only[z] at p;simp only[u,x] at c5;rw[u] at q;generalize c:Qz k n s a.length=B;have F1:k=1->CallL Tryz.prog (.func (.func 80) [] [.ptr 0 0]) [] [(0,.cells (tC k n s a))] λr o=>r=.bool B/\o=[(0,.cells (tC k n s a))]:=λh=>by
  have e:(decide (-2147483647<=n) && decide (n<=2147483647) && decide (s=[]) && decide (a.length=0))=B:=by rw[<- c];unfold Qz;rw[if_pos h]
  rw[<- e];exact c1
 have F2: ∀ nb,nb=(decide (n=0) && !decide (s=[]))->k=2->CallL Tryz.prog (.func (.func 82) [] [.ptr 0 0,.ptr 1 0]) [] [(0,.cells [.bool nb]),(1,.cells (tC k n s a))] λr o=>r=.bool B/\o=[(0,.cells [.bool nb]),(1,.cells (tC k n s a))]:=λnb b h=>by
  have e:(nb && Lx.ZM s && decide (a.length=0))=B:=by rw[<- c,b,d _ v];unfold Qz;rw[h];rfl
  rw[<- e];exact c2 nb
 have F3: ∀ nb,nb=(decide (n=0) && !decide (s=[]))->k=3->CallL Tryz.prog (.func (.func 83) [] [.ptr 0 0,.ptr 1 0]) [] [(0,.cells [.bool nb]),(1,.cells (tC k n s a))] λr o=>r=.bool B/\o=[(0,.cells [.bool nb]),(1,.cells (tC k n s a))]:=λnb b h=>by
  have e:(nb && Lx.ZW s && decide (a.length=0))=B:=by rw[<- c,b,d _ va];unfold Qz;rw[h];rfl
  rw[<- e];exact c3 nb
 have F4: ∀ nb,nb=(decide (n=0) && !decide (s=[]))->k=4->CallL Tryz.prog (.func (.func 85) [] [.ptr 0 0,.ptr 1 0]) [] [(0,.cells [.bool nb]),(1,.cells (tC k n s a))] λr o=>r=.bool B/\o=[(0,.cells [.bool nb]),(1,.cells (tC k n s a))]:=λnb b h=>by
  have e:(nb && Lx.ZM s && (decide (1<=a.length) && decide (a.length<=8)))=B:=by rw[<- c,b,d _ v];unfold Qz;rw[h];simp only[<- Bool.and_assoc];rfl
  rw[<- e];exact p nb
 have F5: ∀ nb ob,nb=(decide (n=0) && !decide (s=[]))->ob=(Lib.contains [43,45,42,47,92] s && decide ((s.length:Int)=1))->k=5->CallL Tryz.prog (.func (.func 86) [] [.ptr 0 0,.ptr 1 0,.ptr 2 0]) [] [(0,.cells [.bool nb]),(1,.cells [.bool ob]),(2,.cells (tC k n s a))] λr o=>r=.bool B/\o=[(0,.cells [.bool nb]),(1,.cells [.bool ob]),(2,.cells (tC k n s a))]:=λnb ob b w h=>by
  have e:(nb && ob && (decide (a.length=2) ||decide (s=[45]) && decide (a.length=1)))=B:=by rw[<- c,b,w,d _ m,l];unfold Qz;rw[h];rfl
  rw[<- e];exact c5 nb ob
 have F6:k=6->CallL Tryz.prog (.func (.func 87) [] [.ptr 0 0]) [] [(0,.cells (tC k n s a))] λr o=>r=.bool B/\o=[(0,.cells (tC k n s a))]:=λh=>by
  have e:(decide (n=0) && decide (s=[]) && decide (a.length=2))=B:=by rw[<- c];unfold Qz;rw[h];rfl
  rw[<- e];exact q
 have F0: ¬ k=1-> ¬ k=2-> ¬ k=3-> ¬ k=4-> ¬ k=5-> ¬ k=6->false=B:=λh1 h2 f g i j=>by rw[<- c];unfold Qz;rw[if_neg h1,if_neg h2,if_neg f,if_neg g,if_neg i,if_neg j]
 generalize Lib.contains [43,45,42,47,92] s=y at hc F5;refine FnOK.tree Z5 fp46 (QN (Zav (.bool B))) (ZjT k n s a y B) ?_;cases b:decide (n=0)<;>rw[b] at F2 F3 F4 F5<;>cases y;all_goals
  simp only[QF,Q8];simp only[Qw,Zs,Zn,decide_eq_true_eq,decide_eq_false_iff_not];exact⟨hc,λh=>⟨F1 h,trivial⟩,λh1=>⟨λh=>⟨F2 _ rfl h,trivial⟩,λh2=>⟨λh=>⟨F3 _ rfl h,trivial⟩,λf=>⟨λh=>⟨F4 _ rfl h,trivial⟩,λg=>⟨λh=>⟨F5 _ _ rfl rfl h,trivial⟩,λi=>⟨λh=>⟨F6 h,trivial⟩,λj=>by rw[F0 h1 h2 f g i j]⟩⟩⟩⟩⟩⟩
def DepP (x:Tm):Prop:=FK 43 [.agg x.cells] (.int .i64 x.depth)
theorem Zdv {l:List Tm} {i:Nat} (h:i<l.length):(Tm.cellsL l)[i]? = some l[i].cells:=by rw[Ql];simp[h]
theorem Zju (l:List Tm) (hl:l.length<=281474976710656) (H: ∀ x∈l,DepP x) (o: ∀ x∈l,x.depth<=1000000000): ∀ (m i d:Nat),l.length-i=m->i<=l.length->d<=1000000000 →
  At Tryz.prog 0 (cut sc43 0) (hdDe (Tm.cellsL l) l.length d i) (FinQ true 0 rs43 λr _=>r=.int .i64 (((Nat.max d (Tm.depthL (l.drop i)))+1:Nat):Int)):=by
 intro m;induction m with
 |zero =>
  intro i d hm hi a;refine At.tree (QN Z8) (Z7k (Tm.cellsL l) l.length d i 0 0 [] [] 0 0) ?_;rw[List.drop_eq_nil_of_le (by omega)];simp only[SS,QJ];refine⟨λh=>by omega,λ_=>⟨by omega,?_⟩⟩;simp[Tm.depthL]
 |succ m p =>
  intro i d hm hi a;have h1:i<l.length:=by omega
  have hx:=Zdv h1;have b:=H _ (List.getElem_mem h1);have g:=o _ (List.getElem_mem h1);have e:l.drop i=l[i]::l.drop (i+1):=List.drop_eq_getElem_cons h1;rw[e];simp only[Tm.depthL];unfold DepP at b;generalize Tm.depth l[i]=c at b g ⊢;have f:=p (i+1) (Nat.max d c) (by omega) (by omega) (Nat.max_le.2 ⟨a,g⟩);have k:Nat.max (Nat.max d c) (Tm.depthL (l.drop (i+1)))=Nat.max d (Nat.max c (Tm.depthL (l.drop (i+1)))):=Nat.max_assoc ..;rw[k] at f;have n:(if (c:Int) > (d:Int) then (c:Int) else (d:Int))=((Nat.max d c:Nat):Int):=by
   have:Nat.max d c=max d c:=rfl;rw[this];split<;>omega
  generalize l[i]=x at hx b;obtain⟨q,nx,s,j⟩:=x;refine At.tree (QN Z8) (Z7k (Tm.cellsL l) l.length d i q nx s (Tm.cellsL j) c (Nat.max d c:Nat)) ?_;simp only[SS,QJ,if_true,n];exact⟨λ_=>⟨⟨by omega,hx⟩,b,by omega,f⟩,λh=>by omega⟩
end Go.Proofs.YtecgehidegnmnaaGreatDoor
/- Valid;the text of a number. -/
namespace Go.Proofs.YtecgehidegnmnaaGreatDoor
open Go.Sx
theorem Za8: ∀ x:Tm,x.wf 281474976710656->x.depth<=1000000000->DepP x
 |.mk k n s l,hx,d=>by
  simp only[Tm.wf] at hx;obtain⟨j,g,h,hs,hl,f⟩:=hx;simp only[Tm.depth] at d;have b: ∀ x∈l,x.depth<=Tm.depthL l:=by
   clear hl f d;induction l with
   |nil=>intro x hx;cases hx
   |cons a r i =>
    intro x hx;simp only[Tm.depthL];rcases List.mem_cons.1 hx with rfl|hx
    ·exact Nat.le_max_left ..
    ·exact Nat.le_trans (i x hx) (Nat.le_max_right ..)
  have c:=Zju l hl (λx hx=>Za8 x (Z5f.1 f x hx) (Nat.le_trans (b x hx) (by omega))) (λx hx=>Nat.le_trans (b x hx) (by omega)) _ 0 0 rfl (Nat.zero_le _) (Nat.zero_le _);refine FnOK.tree Z5 fp43 (QN Z8) (ZgW k n s (Tm.cellsL l)) ?_;rw[Z0r,QJ];have e:Nat.max 0 (Tm.depthL (l.drop 0))=Tm.depthL l:=Nat.zero_max _;rw[e] at c;exact c
termination_by x=>SizeOf.sizeOf x
decreasing_by
 have:=List.sizeOf_lt_of_mem hx;simp only[Tm.mk.sizeOf_spec];omega
theorem Zkp (k n:Int) (s:LU) (a:LD) (b:Bool):let A:=[dA (tC k n s a)];gC (dCtr [(5,dB b)]) 0 rs45 sc45 [] A [] []=(Ow (FK 46 A (dB b)) (Rt (dB b) []):Tr):=by intro A;kernel_rfl
theorem Z8k (x:Tm) (hx:x.wf 281474976710656):CF 45 [.agg x.cells] [] λr ob=>r=.bool x.shape/\ob=[]:=by
 obtain⟨k,n,s,l⟩:=x;simp only[Tm.wf] at hx;have h:=Zbm k n s (Tm.cellsL l) (by omega);rw[QJ] at h;simp only[Tm.shape];generalize Qz k n s l.length=b at h ⊢;refine CallL.tree Z5 fp45 (QN Z8) (Zkp k n s (Tm.cellsL l) b) ?_;rw[Zs,Zn];exact⟨h,rfl,rfl⟩
theorem ZgB (k n:Int) (s:LU) (a:LD) (d:Int) (b:Bool):let A:=tC k n s a;gP (dCtr [(4,dI d)] [] (asmK (dB b))) rs17 sc17 [dA A]=(Ow (FK 43 [dA A] (dI d)) (brT (decide (d<=(12:Int))) (Ow (CF 44 [dA A,dF 45 [] []] [] λr0 o=>r0=dB b/\o=[]) (Rt (dB b) [])) (Rt (dB false) [])):Tr):=by intro A;kernel_rfl
theorem Zbc (x:Tm) (hx:x.wf 281474976710656) (c:x.depth<=1000000000):FK 17 [.agg x.cells] (.bool x.valid):=by
 have h1:=Za8 x hx c;have h2:=Zc4 (h:=Tm.shape) Z8k x hx;unfold DepP at h1;unfold Tm.valid;have a:decide (x.depth<=12)=decide ((x.depth:Int)<=12):=by rw[Bool.eq_iff_iff];simp;omega
 rw[a];generalize x.all Tm.shape=b at h2 ⊢;generalize (x.depth:Int)=d at h1 ⊢;obtain⟨k,n,s,l⟩:=x;refine FnOK.tree Z5 fp17 (QN (Zav (.bool b))) (ZgB k n s (Tm.cellsL l) d b) ?_;rw[Zs,Qw,Zs,Zn,Zn];refine⟨h1,λh=>⟨h2,by rw[h,Bool.true_and]⟩,λh=>by rw[h,Bool.false_and]⟩
end Go.Proofs.YtecgehidegnmnaaGreatDoor
/- The parser: fits;trees of terms. -/
namespace Go.Proofs.YtecgehidegnmnaaGreatDoor
open Go.Sx
open Go.Sx.Lx (Tk Zo)
def asmP (r:D):PT:=λf xs=>some (.ok (FK f xs r) r [])
theorem Z2b (r:D):(asmP r).OK:=by intro f xs rt h;cases h;exactλhp=>hp
noncomputable def PFit (ts:List Tk) (i m a d k n:Int) (s:LU) (l:LD) (so:Bool) (r1 r2 r3:LD):Tr:=Ow (FK 43 [dA (tC k n s l)] (dI d)) (brT (decide (m<d)) (Rt (D.pan (Value.iface 114 (Value.agg #[valV (dI a),valV (dI 5)]))) (psO ts i so r1 r2 r3)) (Rt (dA (tC k n s l)) (psO ts i so r1 r2 r3)))
theorem ZgT (ts:List Tk) (i m a d k n:Int) (s:LU) (l:LD) (so:Bool) (r1 r2 r3:LD):gC (ctr (asmP (dI d))) 10 rs90 sc90 [] [dP 0 0,dA (tC k n s l),dI m,dI a] [] (psO ts i so r1 r2 r3)=PFit ts i m a d k n s l so r1 r2 r3:=by kernel_rfl
noncomputable def PNam (ts:List Tk) (i d a b e:Int) (so g c h j:Bool) (s:LU) (l:LD) (v1 f v4:Value) (r1 r2 r3:LD):Tr:=brT g (Ow (CQ 97 [dP 0 0,dU 1] (psO ts i so r1 r2 r3) (dS s) (psO ts d so r1 r2 r3)) (Ow (CQ 66 [dP 0 0,dL [[dS [40]]] []] (psO ts d so r1 r2 r3) (dB c) (psO ts a so r1 r2 r3)) (brT c (brT h (Ow (CQ 166 [dP 0 0,dI 8,dS [44],dF 91 [dP 0 0] []] (psO ts a so r1 r2 r3) (dL l []) (psO ts b so r1 r2 r3)) (brT j (Ow (CQ 68 [dP 0 0,dS [41]] (psO ts b so r1 r2 r3) (D.tuple []) (psO ts e so r1 r2 r3)) (Rt (dA [dU 4,dI 0,dS s,dL l []]) (psO ts e so r1 r2 r3))) (Ow (CQ 68 [dP 0 0,dS [41]] (psO ts b so r1 r2 r3) (D.pan v4) []) (Rt (D.pan v4) [])))) (Ow (CQ 166 [dP 0 0,dI 8,dS [44],dF 91 [dP 0 0] []] (psO ts a so r1 r2 r3) (D.pan f) []) (Rt (D.pan f) []))) (Rt (dA [dU 2,dI 0,dS s,dL [] []]) (psO ts a so r1 r2 r3))))) (Ow (CQ 97 [dP 0 0,dU 1] (psO ts i so r1 r2 r3) (D.pan v1) []) (Rt (D.pan v1) []))
theorem ZgK (ts:List Tk) (i e f g h:Int) (so a c b d:Bool) (s:LU) (l:LD) (v1 j v4:Value) (r1 r2 r3:LD):goT Tryz.prog {F:=λx=>libT,C:=λn=>if n=7 then psB a (dS s) (psO ts e so r1 r2 r3) v1 else if n=13 then psQ (dB c) (psO ts f so r1 r2 r3) else if n=17 then psB b (dL l []) (psO ts g so r1 r2 r3) j else psB d (D.tuple []) (psO ts h so r1 r2 r3) v4,E:=noE} 10 (finF false 10 Zf2) 2000 [Fr.sc Zei] {tm:=Zu 0 ([]++[dP 0 0]++[]),ob:=psO ts i so r1 r2 r3}=PNam ts i e f g h so a c b d s l v1 j v4 r1 r2 r3:=by kernel_rfl
noncomputable def PChA (ts:List Tk) (i j:Int) (g:Nat) (b so:Bool) (es ext:LD) (k n:Int) (s:LU) (l:LD) (v:Value) (r1 r2 r3:LD):Tr:=brT b (Ow (CallL Tryz.prog (dF g [dP 0 0] []) [] (psO ts i so r1 r2 r3) λr0 ob0=>r0=dA (tC k n s l)/\ob0=(psO ts j so r1 r2 r3)) (Jm (cut Z2p 0) {tm:=[(0,dP 0 0),(1,dF g [dP 0 0] []),(2,dL es ext),(6,dP 10 0),(7,dP 11 0)],ob:=[(0,oC [dL (List.map Zo ts) [],dI j,dV 1,dV 2,dV 3,dB so]),(1,oR true 20 42 r1),(2,oR true 5 53 r2),(3,oR true 2 138 r3),(10,oC [dU 0,dI 0,dS [],D.nils]),(11,oC (tC k n s l))]})) (Ow (CallL Tryz.prog (dF g [dP 0 0] []) [] (psO ts i so r1 r2 r3) λr0 ob0=>r0=D.pan v/\ob0=[]) (Rt (D.pan v) []))
theorem Zh0 (ts:List Tk) (i j:Int) (g:Nat) (b so:Bool) (es ext:LD) (k n:Int) (s:LU) (l:LD) (v:Value) (r1 r2 r3:LD):gC (ctr libT (psB b (dA (tC k n s l)) (psO ts j so r1 r2 r3) v)) 10 Z4M Z2p [] [dP 0 0,dF g [dP 0 0] [],dL es ext] [] (psO ts i so r1 r2 r3)=PChA ts i j g b so es ext k n s l v r1 r2 r3:=by kernel_rfl
def ZiI (ts:List Tk) (i:Int) (g:Nat) (es ext:LD) (so:Bool) (t:List D) (r1 r2 r3:LD):St:=⟨[(0,.ptr 0 0),(1,.func (.func g) [.ptr 0 0] []),(2,.slice es ext),(6,.ptr 10 0),(7,.ptr 11 0)],psO ts i so r1 r2 r3++[(10,.cells [.int .u8 0,.int .i64 0,.str [],.nils]),(11,.cells t)]⟩
noncomputable def Zkc (ts:List Tk) (i j:Int) (g:Nat) (b c so:Bool) (es ext:LD) (f h:Int) (hs:LU) (k n a e:Int) (s s':LU) (l d:LD) (v:Value) (r1 r2 r3:LD):Tr:=Ow (CQ 63 [dP 0 0,dL es ext] (psO ts i so r1 r2 r3) (dB c) (psO ts i so r1 r2 r3)) (brT c (Ow (CQ 58 [dP 0 0] (psO ts i so r1 r2 r3) (dA [dU f,dS hs,dI h]) (psO ts i so r1 r2 r3)) (I8 (i+(1:Int)) (brT b (Ow (CallL Tryz.prog (dF g [dP 0 0] []) [] [(0,oC [dL (List.map Zo ts) [],dI (i+(1:Int)),dV 1,dV 2,dV 3,dB so]),(1,oR true 20 42 r1),(2,oR true 5 53 r2),(3,oR true 2 138 r3)] λr0 ob0=>r0=dA (tC a e s' d)/\ob0=(psO ts j so r1 r2 r3)) (Jm (cut Z2p 0) {tm:=[(0,dP 0 0),(1,dF g [dP 0 0] []),(2,dL es ext),(6,dP 10 0),(7,dP 11 0)],ob:=[(0,oC [dL (List.map Zo ts) [],dI j,dV 1,dV 2,dV 3,dB so]),(1,oR true 20 42 r1),(2,oR true 5 53 r2),(3,oR true 2 138 r3),(10,oC [dU 0,dI 0,dS [],D.nils]),(11,oC [dU 5,dI 0,dS hs,dL [(tC k n s l),(tC a e s' d)] []])]})) (Ow (CallL Tryz.prog (dF g [dP 0 0] []) [] [(0,oC [dL (List.map Zo ts) [],dI (i+(1:Int)),dV 1,dV 2,dV 3,dB so]),(1,oR true 20 42 r1),(2,oR true 5 53 r2),(3,oR true 2 138 r3)] λr0 ob0=>r0=D.pan v/\ob0=[]) (Rt (D.pan v) []))))) (Rt (dA (tC k n s l)) (psO ts i so r1 r2 r3)))
theorem ZcN (ts:List Tk) (i j:Int) (g:Nat) (b c so:Bool) (es ext:LD) (a d:Int) (hs:LU) (k n e h:Int) (s s':LU) (l f:LD) (v:Value) (r1 r2 r3:LD):goT Tryz.prog {F:=λx=>libT,C:=λn=>if n=15 then psQ (dB c) (psO ts i so r1 r2 r3) else if n=19 then psQ (dA [dU a,dS hs,dI d]) (psO ts i so r1 r2 r3) else psB b (dA (tC e h s' f)) (psO ts j so r1 r2 r3) v,E:=noE} 10 (finF false 10 Z4M) 2000 (cut Z2p 0) (ZiI ts i g es ext so (tC k n s l) r1 r2 r3)=Zkc ts i j g b c so es ext a d hs k n e h s s' l f v r1 r2 r3:=by kernel_rfl
noncomputable def PChB (ts:List Tk) (i j:Int) (g:Nat) (b so:Bool) (es ext:LD) (k n:Int) (s:LU) (l:LD) (v:Value) (r1 r2 r3:LD):Tr:=brT b (Ow (CallL Tryz.prog (dF g [] [dP 0 0]) [] [(0,oC [dP 1 0]),(1,oC [dL (List.map Zo ts) [],dI i,dV 2,dV 3,dV 4,dB so]),(2,oR true 20 42 r1),(3,oR true 5 53 r2),(4,oR true 2 138 r3)] λr0 ob0=>r0=dA (tC k n s l)/\ob0=[(0,oC [dP 1 0]),(1,oC [dL (List.map Zo ts) [],dI j,dV 2,dV 3,dV 4,dB so]),(2,oR true 20 42 r1),(3,oR true 5 53 r2),(4,oR true 2 138 r3)]) (Jm (cut Z2p 0) {tm:=[(0,dP 0 0),(1,dF g [] [dP 1 0]),(2,dL es ext),(6,dP 10 0),(7,dP 11 0)],ob:=[(0,oC [dL (List.map Zo ts) [],dI j,dV 2,dV 3,dV 4,dB so]),(1,oC [dP 0 0]),(2,oR true 20 42 r1),(3,oR true 5 53 r2),(4,oR true 2 138 r3),(10,oC [dU 0,dI 0,dS [],D.nils]),(11,oC (tC k n s l))]})) (Ow (CallL Tryz.prog (dF g [] [dP 0 0]) [] [(0,oC [dP 1 0]),(1,oC [dL (List.map Zo ts) [],dI i,dV 2,dV 3,dV 4,dB so]),(2,oR true 20 42 r1),(3,oR true 5 53 r2),(4,oR true 2 138 r3)] λr0 ob0=>r0=D.pan v/\ob0=[]) (Rt (D.pan v) []))
theorem ZgZ (ts:List Tk) (i j:Int) (g:Nat) (b so:Bool) (es ext:LD) (k n:Int) (s:LU) (l:LD) (v:Value) (r1 r2 r3:LD):gC (ctr libT (psB b (dA (tC k n s l)) (psQ0 ts j so r1 r2 r3) v)) 10 Z4M Z2p [] [dP 0 0,dF g [] [dP 1 0],dL es ext] [] (psO1 ts i so r1 r2 r3)=PChB ts i j g b so es ext k n s l v r1 r2 r3:=by kernel_rfl
def ZiH (ts:List Tk) (i:Int) (g:Nat) (es ext:LD) (so:Bool) (t:List D) (r1 r2 r3:LD):St:=⟨[(0,.ptr 0 0),(1,.func (.func g) [] [.ptr 1 0]),(2,.slice es ext),(6,.ptr 10 0),(7,.ptr 11 0)],psO1 ts i so r1 r2 r3++[(10,.cells [.int .u8 0,.int .i64 0,.str [],.nils]),(11,.cells t)]⟩
noncomputable def Zkb (ts:List Tk) (i j:Int) (g:Nat) (b c so:Bool) (es ext:LD) (f h:Int) (hs:LU) (k n a e:Int) (s s':LU) (l d:LD) (v:Value) (r1 r2 r3:LD):Tr:=Ow (CQ 63 [dP 0 0,dL es ext] (psO ts i so r1 r2 r3) (dB c) (psO ts i so r1 r2 r3)) (brT c (Ow (CQ 58 [dP 0 0] (psO ts i so r1 r2 r3) (dA [dU f,dS hs,dI h]) (psO ts i so r1 r2 r3)) (I8 (i+(1:Int)) (brT b (Ow (CallL Tryz.prog (dF g [] [dP 0 0]) [] [(0,oC [dP 1 0]),(1,oC [dL (List.map Zo ts) [],dI (i+(1:Int)),dV 2,dV 3,dV 4,dB so]),(2,oR true 20 42 r1),(3,oR true 5 53 r2),(4,oR true 2 138 r3)] λr0 ob0=>r0=dA (tC a e s' d)/\ob0=[(0,oC [dP 1 0]),(1,oC [dL (List.map Zo ts) [],dI j,dV 2,dV 3,dV 4,dB so]),(2,oR true 20 42 r1),(3,oR true 5 53 r2),(4,oR true 2 138 r3)]) (Jm (cut Z2p 0) {tm:=[(0,dP 0 0),(1,dF g [] [dP 1 0]),(2,dL es ext),(6,dP 10 0),(7,dP 11 0)],ob:=[(0,oC [dL (List.map Zo ts) [],dI j,dV 2,dV 3,dV 4,dB so]),(1,oC [dP 0 0]),(2,oR true 20 42 r1),(3,oR true 5 53 r2),(4,oR true 2 138 r3),(10,oC [dU 0,dI 0,dS [],D.nils]),(11,oC [dU 5,dI 0,dS hs,dL [(tC k n s l),(tC a e s' d)] []])]})) (Ow (CallL Tryz.prog (dF g [] [dP 0 0]) [] [(0,oC [dP 1 0]),(1,oC [dL (List.map Zo ts) [],dI (i+(1:Int)),dV 2,dV 3,dV 4,dB so]),(2,oR true 20 42 r1),(3,oR true 5 53 r2),(4,oR true 2 138 r3)] λr0 ob0=>r0=D.pan v/\ob0=[]) (Rt (D.pan v) []))))) (Rt (dA (tC k n s l)) (psO1 ts i so r1 r2 r3)))
theorem ZcM (ts:List Tk) (i j:Int) (g:Nat) (b c so:Bool) (es ext:LD) (a d:Int) (hs:LU) (k n e h:Int) (s s':LU) (l f:LD) (v:Value) (r1 r2 r3:LD):goT Tryz.prog {F:=λx=>libT,C:=λn=>if n=15 then psQ (dB c) (psO ts i so r1 r2 r3) else if n=19 then psQ (dA [dU a,dS hs,dI d]) (psO ts i so r1 r2 r3) else psB b (dA (tC e h s' f)) (psQ0 ts j so r1 r2 r3) v,E:=noE} 10 (finF false 10 Z4M) 2000 (cut Z2p 0) (ZiH ts i g es ext so (tC k n s l) r1 r2 r3)=Zkb ts i j g b c so es ext a d hs k n e h s s' l f v r1 r2 r3:=by kernel_rfl
theorem ZgF (ts:List Tk) (i j:Int) (b so:Bool) (k n:Int) (s:LU) (l:LD) (v:Value) (r1 r2 r3:LD):let A:=[dP 0 0,dF 160 [] [dP 1 0],dL [[dS [43]],[dS [45]]] []];let B:=dA (tC k n s l);let C:=psO1 ts j so r1 r2 r3;let E:=psO1 ts i so r1 r2 r3;gC (ctr libT (psB b B C v)) 10 Zfb Zer [] [dP 0 0] [] (psO ts i so r1 r2 r3)=(brT b (Ow (CQ 161 A E B C) (Rt B (psO ts j so r1 r2 r3))) (Ow (CQ 161 A E (D.pan v) []) (Rt (D.pan v) [])):Tr):=by intro A B C E;kernel_rfl
theorem ZgG (ts:List Tk) (i j:Int) (b so:Bool) (k n:Int) (s:LU) (l:LD) (v:Value) (r1 r2 r3:LD):let A:=[dP 0 0,dF 162 [dP 0 0] [],dL [[dS [42]],[dS [47]],[dS [92]]] []];let B:=dA (tC k n s l);let C:=psO ts j so r1 r2 r3;let E:=psO ts i so r1 r2 r3;let F:=(0,oC [dP 1 0]);gC (ctr libT (psB b B C v)) 10 ZeZ Zef [] [] [dP 0 0] (psQ0 ts i so r1 r2 r3)=(brT b (Ow (CQ 161 A E B C) (Rt B [F,(1,oC [dL (List.map Zo ts) [],dI j,dV 2,dV 3,dV 4,dB so]),(2,oR true 20 42 r1),(3,oR true 5 53 r2),(4,oR true 2 138 r3)])) (Ow (CQ 161 A E (D.pan v) []) (Rt (D.pan v) [F])):Tr):=by intro A B C E F;kernel_rfl
theorem ZgI (ts:List Tk) (i e f g:Int) (so b c d:Bool) (k n h o:Int) (s s':LU) (l j:LD) (v1 a:Value) (r1 r2 r3:LD):let A:=psO ts f so r1 r2 r3;let B:=psO ts e so r1 r2 r3;let G:=psO ts g so r1 r2 r3;let H:=tC k n s l;let I:=tC h o s' j;let J:=psO ts i so r1 r2 r3;goT Tryz.prog {F:=λx=>libT,C:=λm=>if m=5 then psB b (dA H) B v1 else if m=10 then psQ (dB c) A else psB d (dA I) G a,E:=noE} 10 (finF false 10 rs91) 2000 [Fr.sc sc91] {tm:=Zu 0 ([]++[dP 0 0]++[]),ob:=psO ts i so r1 r2 r3}=(brT b (Ow (CQ 131 [dP 0 0] J (dA H) B) (Ow (CQ 66 [dP 0 0,dL [[dS [46,46]]] []] B (dB c) A) (brT c (brT d (Ow (CQ 131 [dP 0 0] A (dA I) G) (Rt (dA [dU 6,dI 0,dS [],dL [H,I] []]) G)) (Ow (CQ 131 [dP 0 0] A (D.pan a) []) (Rt (D.pan a) []))) (Rt (dA H) A)))) (Ow (CQ 131 [dP 0 0] J (D.pan v1) []) (Rt (D.pan v1) [])):Tr):=by intro A B G H I J;kernel_rfl
end Go.Proofs.YtecgehidegnmnaaGreatDoor
