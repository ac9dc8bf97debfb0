/- Own work: a layer over the kit: plain data,a walk over it,its soundness. -/
import Derived.Lib.IndexMore
import Derived.Test.YtobgkdlghljdlaaGreatDoorEvery
import Derived.Test.YtobgkdlghljdlaaGreatDoorSx8
set_option linter.unusedSectionVars false
set_option linter.unusedVariables false
set_option linter.unusedSimpArgs false
set_option linter.deprecated false
set_option maxRecDepth 100000
/- Depth,shape. -/
namespace Go.Proofs.YtobgkdlghljdlaaGreatDoor
open Go.Sx
def dCtr (l:List (Nat × D)) (e:List (Nat × List D):=[]) (q:QT:=Qg):Ctr:=⟨fun t f az=>match lk l t with | some r=>some (.ok (FK f az r) r []) | none=>none,fun _=>q,fun t _=>(lk e t).getD []⟩
theorem Zn {l:List (Nat × D)} {e:List (Nat × List D)} {q:QT} (hq:q.OK):(dCtr l e q).OK Tryz.prog:=by
 refine⟨fun t f az rt h=> ?_,fun _=>hq⟩
 simp only[dCtr] at h
 split at h
 ·cases h; exact fun hp=>hp
 ·cases h
def asmK (r:D):QT:=fun d xs ob=>some (.ok (CallL Tryz.prog d xs ob fun r0 o=>r0=r/\o=ob) r ob)
theorem Z3U (r:D):(asmK r).OK:=by intro d xs ob rt h; cases h; exact fun hp=>hp
theorem Zhl (k n:Int) (s:LU) (a:LD):gP (dCtr []) rs37 sc37 [dA (tC k n s a)]=(Jm (cut sc37 0) { tm:=[(3,dI (0:Int)),(7,dL a []),(8,dI (↑(List.length a):Int)),(9,dI (0:Int))],ob:=[] }:Tr):=by kernel_rfl
def hdDe (a:LD) (m d i:Int):St:=⟨[(3,.int .i64 d),(7,.slice a []),(8,.int .i64 m),(9,.int .i64 i)],[]⟩
theorem Z70 (a':LD) (m d i kx nx:Int) (sx:LU) (ax:LD) (c q:Int):gH (dCtr [(15,dI c)] [(11,tC kx nx sx ax),(16,[dI q])]) 0 true rs37 (cut sc37 0) (hdDe a' m d i)=(brT (decide (i<m)) (Ow ((0:Int)<=i/\a'[Int.toNat i]? = some (tC kx nx sx ax)) (Ow (FK 37 [dA (tC kx nx sx ax)] (dI c)) (Ow (IntKind.i64=IntKind.i64/\(if true=true then if c > d then c else d else if c<d then c else d)=q) (I8 (i+(1:Int)) (Jm (cut sc37 0) { tm:=[(3,dI q),(7,dL a' []),(8,dI m),(9,dI (i+(1:Int)))],ob:=[] }))))) (I8 (d+(1:Int)) (Rt (dI (d+(1:Int))) [])):Tr):=by kernel_rfl
theorem Zhs (k n:Int) (s:LU) (a:LD) (lo hi:Int):let A:=(↑(List.length a):Int);gP (dCtr []) rs75 sc75 [dA (tC k n s a),dI lo,dI hi]=(brT (decide (lo<=A)) (Rt (dB (decide (A<=hi))) []) (Rt (dB false) []):Tr):=by intro A;kernel_rfl
theorem Zni (k n:Int) (s:LU) (a:LD) (b:Bool):let A:=[(0,oC (tC k n s a))];let B:=Rt (dB false) A;gC (dCtr [(20,dB b)]) 1 rs74 sc74 [] [] [dP 0 0] A=(brT (decide ((-2147483647:Int)<=n)) (brT (decide (n<=(2147483647:Int))) (brT (decide (s=[])) (Ow (FK 75 [dA (tC k n s a),dI (0:Int),dI (0:Int)] (dB b)) (Rt (dB b) A)) B) B) B:Tr):=by intro A B;kernel_rfl
theorem Znh (k n:Int) (s:LU) (a:LD) (nb y b:Bool):let A:=[(0,oC [dB nb]),(1,oC (tC k n s a))];let B:=Rt (dB false) A;gC (dCtr [(8,dB y),(12,dB b)]) 2 rs76 sc76 [] [] [dP 0 0,dP 1 0] A=(brT nb (Ow (FK 77 [dS s] (dB y)) (brT y (Ow (FK 75 [dA (tC k n s a),dI (0:Int),dI (0:Int)] (dB b)) (Rt (dB b) A)) B)) B:Tr):=by intro A B;kernel_rfl
theorem Zng (k n:Int) (s:LU) (a:LD) (nb y b:Bool):let A:=[(0,oC [dB nb]),(1,oC (tC k n s a))];let B:=Rt (dB false) A;gC (dCtr [(8,dB y),(12,dB b)]) 2 rs78 sc78 [] [] [dP 0 0,dP 1 0] A=(brT nb (Ow (FK 26 [dS s] (dB y)) (brT y (Ow (FK 75 [dA (tC k n s a),dI (0:Int),dI (0:Int)] (dB b)) (Rt (dB b) A)) B)) B:Tr):=by intro A B;kernel_rfl
theorem Znf (k n:Int) (s:LU) (a:LD) (nb y b:Bool):let A:=[(0,oC [dB nb]),(1,oC (tC k n s a))];let B:=Rt (dB false) A;gC (dCtr [(8,dB y),(12,dB b)]) 2 rs79 sc79 [] [] [dP 0 0,dP 1 0] A=(brT nb (Ow (FK 77 [dS s] (dB y)) (brT y (Ow (FK 75 [dA (tC k n s a),dI (1:Int),dI (8:Int)] (dB b)) (Rt (dB b) A)) B)) B:Tr):=by intro A B;kernel_rfl
theorem Zne (k n:Int) (s:LU) (a:LD) (nb ob b2 b1:Bool):let A:=[(0,oC [dB nb]),(1,oC [dB ob]),(2,oC (tC k n s a))];let B:=Rt (dB false) A;let C:=tC k n s a;gC (dCtr [(10,dB b2),(18,dB b1)]) 3 rs80 sc80 [] [] [dP 0 0,dP 1 0,dP 2 0] A=(brT nb (brT ob (Ow (FK 75 [dA C,dI (2:Int),dI (2:Int)] (dB b2)) (brT b2 (Rt (dB true) A) (brT (decide (s=[(45:UInt8)])) (Ow (FK 75 [dA C,dI (1:Int),dI (1:Int)] (dB b1)) (Rt (dB b1) A)) B))) B) B:Tr):=by intro A B C;kernel_rfl
theorem Znd (k n:Int) (s:LU) (a:LD) (b:Bool):let A:=[(0,oC (tC k n s a))];let B:=Rt (dB false) A;gC (dCtr [(14,dB b)]) 1 rs81 sc81 [] [] [dP 0 0] A=(brT (decide (n=(0:Int))) (brT (decide (s=[])) (Ow (FK 75 [dA (tC k n s a),dI (2:Int),dI (2:Int)] (dB b)) (Rt (dB b) A)) B) B:Tr):=by intro A B;kernel_rfl
theorem Zmh (k n:Int) (s:LU) (a:LD) (y b:Bool):let A:=tC k n s a;let B:=Rt (dB b) [];let C:=[(0,oC [dB false]),(1,oC A)];let E:=[dP 0 0,dP 1 0];let F:=[(0,oC A)];let G:=dF 80 [] [dP 0 0,dP 1 0,dP 2 0];let H:=(FK 73 [dS [(43:UInt8),(45:UInt8),(42:UInt8),(47:UInt8),(92:UInt8)],dS s] (dB y));let I:=(↑(List.length s):Int);let J:=[dB false];let K:=dF 74 [] [dP 0 0];let L:=dF 81 [] [dP 0 0];let M:=Rt (dB false) [];let N:=dF 76 [] E;let O:=dF 78 [] E;let P:=dF 79 [] E;let Q:=[(0,oC J),(1,oC J),(2,oC A)];gP (dCtr [(20,dB y)] [] (asmK (dB b))) rs40 sc40 [dA A]=(brT (decide (n=(0:Int))) (Ow H (brT y (brT (decide (k=(1:Int))) (Ow (CallL Tryz.prog K [] F fun r0 o=>r0=dB b/\o=F) B) (brT (decide (k=(2:Int))) (Ow (CallL Tryz.prog N [] [(0,oC [D.bool !decide (s=[])]),(1,oC A)] fun r0 o=>r0=dB b/\o=[(0,oC [D.bool !decide (s=[])]),(1,oC A)]) B) (brT (decide (k=(3:Int))) (Ow (CallL Tryz.prog O [] [(0,oC [D.bool !decide (s=[])]),(1,oC A)] fun r0 o=>r0=dB b/\o=[(0,oC [D.bool !decide (s=[])]),(1,oC A)]) B) (brT (decide (k=(4:Int))) (Ow (CallL Tryz.prog P [] [(0,oC [D.bool !decide (s=[])]),(1,oC A)] fun r0 o=>r0=dB b/\o=[(0,oC [D.bool !decide (s=[])]),(1,oC A)]) B) (brT (decide (k=(5:Int))) (Ow (CallL Tryz.prog G [] [(0,oC [D.bool !decide (s=[])]),(1,oC [dB (decide (I=(1:Int)))]),(2,oC A)] fun r0 o=>r0=dB b/\o=[(0,oC [D.bool !decide (s=[])]),(1,oC [dB (decide (I=(1:Int)))]),(2,oC A)]) B) (brT (decide (k=(6:Int))) (Ow (CallL Tryz.prog L [] F fun r0 o=>r0=dB b/\o=F) B) M)))))) (brT (decide (k=(1:Int))) (Ow (CallL Tryz.prog K [] F fun r0 o=>r0=dB b/\o=F) B) (brT (decide (k=(2:Int))) (Ow (CallL Tryz.prog N [] [(0,oC [D.bool !decide (s=[])]),(1,oC A)] fun r0 o=>r0=dB b/\o=[(0,oC [D.bool !decide (s=[])]),(1,oC A)]) B) (brT (decide (k=(3:Int))) (Ow (CallL Tryz.prog O [] [(0,oC [D.bool !decide (s=[])]),(1,oC A)] fun r0 o=>r0=dB b/\o=[(0,oC [D.bool !decide (s=[])]),(1,oC A)]) B) (brT (decide (k=(4:Int))) (Ow (CallL Tryz.prog P [] [(0,oC [D.bool !decide (s=[])]),(1,oC A)] fun r0 o=>r0=dB b/\o=[(0,oC [D.bool !decide (s=[])]),(1,oC A)]) B) (brT (decide (k=(5:Int))) (Ow (CallL Tryz.prog G [] [(0,oC [D.bool !decide (s=[])]),(1,oC J),(2,oC A)] fun r0 o=>r0=dB b/\o=[(0,oC [D.bool !decide (s=[])]),(1,oC J),(2,oC A)]) B) (brT (decide (k=(6:Int))) (Ow (CallL Tryz.prog L [] F fun r0 o=>r0=dB b/\o=F) B) M)))))))) (Ow H (brT y (brT (decide (k=(1:Int))) (Ow (CallL Tryz.prog K [] F fun r0 o=>r0=dB b/\o=F) B) (brT (decide (k=(2:Int))) (Ow (CallL Tryz.prog N [] C fun r0 o=>r0=dB b/\o=C) B) (brT (decide (k=(3:Int))) (Ow (CallL Tryz.prog O [] C fun r0 o=>r0=dB b/\o=C) B) (brT (decide (k=(4:Int))) (Ow (CallL Tryz.prog P [] C fun r0 o=>r0=dB b/\o=C) B) (brT (decide (k=(5:Int))) (Ow (CallL Tryz.prog G [] [(0,oC J),(1,oC [dB (decide (I=(1:Int)))]),(2,oC A)] fun r0 o=>r0=dB b/\o=[(0,oC J),(1,oC [dB (decide (I=(1:Int)))]),(2,oC A)]) B) (brT (decide (k=(6:Int))) (Ow (CallL Tryz.prog L [] F fun r0 o=>r0=dB b/\o=F) B) M)))))) (brT (decide (k=(1:Int))) (Ow (CallL Tryz.prog K [] F fun r0 o=>r0=dB b/\o=F) B) (brT (decide (k=(2:Int))) (Ow (CallL Tryz.prog N [] C fun r0 o=>r0=dB b/\o=C) B) (brT (decide (k=(3:Int))) (Ow (CallL Tryz.prog O [] C fun r0 o=>r0=dB b/\o=C) B) (brT (decide (k=(4:Int))) (Ow (CallL Tryz.prog P [] C fun r0 o=>r0=dB b/\o=C) B) (brT (decide (k=(5:Int))) (Ow (CallL Tryz.prog G [] Q fun r0 o=>r0=dB b/\o=Q) B) (brT (decide (k=(6:Int))) (Ow (CallL Tryz.prog L [] F fun r0 o=>r0=dB b/\o=F) B) M)))))))):Tr):=by intro A B C E F G H I J K L M N O P Q;kernel_rfl
theorem Z2x (k n:Int) (s:LU) (a:LD) (lo hi:Int):FK 75 [.agg (tC k n s a),.int .i64 lo,.int .i64 hi] (.bool (decide (lo<=(a.length:Int)) && decide ((a.length:Int)<=hi))):=by
 refine FnOK.tree Z4 fp75 (Zn Z0) (Zhs k n s a lo hi) ?_
 cases h:decide (lo<=(a.length:Int)) <;> simp[brT,Ze]
theorem ZlK (k n:Int) (s:LU) (a:LD):CallL Tryz.prog (.func (.func 74) [] [.ptr 0 0]) [] [(0,.cells (tC k n s a))] fun r o=>r= .bool (decide (-2147483647<=n) && decide (n<=2147483647) && decide (s=[]) && (decide ((0:Int)<=(a.length:Int)) && decide ((a.length:Int)<=0)))/\o=[(0,.cells (tC k n s a))]:=by
 have ha:=Z2x k n s a 0 0
 generalize (decide ((0:Int)<=(a.length:Int)) && decide ((a.length:Int)<=0))=b at ha ⊢
 refine CallL.tree Z4 fp74 (Zn Z0) (Zni k n s a b) ?_
 simp only[Qt,Zh,Ze]
 exact⟨fun h1=>⟨fun h2=>⟨fun h3=>⟨ha,by rw[h1,h2,h3]; rfl,by first | rfl | trivial⟩,fun h3=>⟨by rw[h1,h2,h3]; rfl,by first | rfl | trivial⟩⟩,fun h2=>⟨by rw[h1,h2]; rfl,by first | rfl | trivial⟩⟩,fun h1=>⟨by rw[h1]; rfl,by first | rfl | trivial⟩⟩
theorem ZlJ (k n:Int) (s:LU) (a:LD) (nb:Bool) (hs:s.length<=4611686018427387904):CallL Tryz.prog (.func (.func 76) [] [.ptr 0 0,.ptr 1 0]) [] [(0,.cells [.bool nb]),(1,.cells (tC k n s a))] fun r o=>r= .bool (nb && Lx.symbolB s && (decide ((0:Int)<=(a.length:Int)) && decide ((a.length:Int)<=0)))/\o=[(0,.cells [.bool nb]),(1,.cells (tC k n s a))]:=by
 have ha:=Z2x k n s a 0 0
 have hy:=Z43 s hs
 generalize (decide ((0:Int)<=(a.length:Int)) && decide ((a.length:Int)<=0))=b at ha ⊢
 generalize Lx.symbolB s=y at hy ⊢
 refine CallL.tree Z4 fp76 (Zn Z0) (Znh k n s a nb y b) ?_
 cases nb
 ·rw[ZK,Ze]; exact⟨rfl,rfl⟩
 ·rw[ZZ,Zh]
  refine⟨hy, ?_⟩
  cases y
  ·rw[ZK,Ze]; exact⟨rfl,rfl⟩
  ·rw[ZZ,Zh,Ze]; exact⟨ha,rfl,rfl⟩
theorem ZlI (k n:Int) (s:LU) (a:LD) (nb:Bool) (hs:s.length<=4611686018427387904):CallL Tryz.prog (.func (.func 78) [] [.ptr 0 0,.ptr 1 0]) [] [(0,.cells [.bool nb]),(1,.cells (tC k n s a))] fun r o=>r= .bool (nb && Lx.variableB s && (decide ((0:Int)<=(a.length:Int)) && decide ((a.length:Int)<=0)))/\o=[(0,.cells [.bool nb]),(1,.cells (tC k n s a))]:=by
 have ha:=Z2x k n s a 0 0
 have hy:=Z1P s hs
 generalize (decide ((0:Int)<=(a.length:Int)) && decide ((a.length:Int)<=0))=b at ha ⊢
 generalize Lx.variableB s=y at hy ⊢
 refine CallL.tree Z4 fp78 (Zn Z0) (Zng k n s a nb y b) ?_
 cases nb
 ·rw[ZK,Ze]; exact⟨rfl,rfl⟩
 ·rw[ZZ,Zh]
  refine⟨hy, ?_⟩
  cases y
  ·rw[ZK,Ze]; exact⟨rfl,rfl⟩
  ·rw[ZZ,Zh,Ze]; exact⟨ha,rfl,rfl⟩
theorem ZlH (k n:Int) (s:LU) (a:LD) (nb:Bool) (hs:s.length<=4611686018427387904):CallL Tryz.prog (.func (.func 79) [] [.ptr 0 0,.ptr 1 0]) [] [(0,.cells [.bool nb]),(1,.cells (tC k n s a))] fun r o=>r= .bool (nb && Lx.symbolB s && (decide ((1:Int)<=(a.length:Int)) && decide ((a.length:Int)<=8)))/\o=[(0,.cells [.bool nb]),(1,.cells (tC k n s a))]:=by
 have ha:=Z2x k n s a 1 8
 have hy:=Z43 s hs
 generalize (decide ((1:Int)<=(a.length:Int)) && decide ((a.length:Int)<=8))=b at ha ⊢
 generalize Lx.symbolB s=y at hy ⊢
 refine CallL.tree Z4 fp79 (Zn Z0) (Znf k n s a nb y b) ?_
 cases nb
 ·rw[ZK,Ze]; exact⟨rfl,rfl⟩
 ·rw[ZZ,Zh]
  refine⟨hy, ?_⟩
  cases y
  ·rw[ZK,Ze]; exact⟨rfl,rfl⟩
  ·rw[ZZ,Zh,Ze]; exact⟨ha,rfl,rfl⟩
theorem ZlG (k n:Int) (s:LU) (a:LD) (nb ob:Bool):CallL Tryz.prog (.func (.func 80) [] [.ptr 0 0,.ptr 1 0,.ptr 2 0]) [] [(0,.cells [.bool nb]),(1,.cells [.bool ob]),(2,.cells (tC k n s a))] fun r o=>r= .bool (nb && ob && ((decide ((2:Int)<=(a.length:Int)) && decide ((a.length:Int)<=2)) || decide (s=[45]) && (decide ((1:Int)<=(a.length:Int)) && decide ((a.length:Int)<=1))))/\o=[(0,.cells [.bool nb]),(1,.cells [.bool ob]),(2,.cells (tC k n s a))]:=by
 have ha:=Z2x k n s a 2 2
 have hb:=Z2x k n s a 1 1
 generalize (decide ((2:Int)<=(a.length:Int)) && decide ((a.length:Int)<=2))=b2 at ha ⊢
 generalize (decide ((1:Int)<=(a.length:Int)) && decide ((a.length:Int)<=1))=b1 at hb ⊢
 refine CallL.tree Z4 fp80 (Zn Z0) (Zne k n s a nb ob b2 b1) ?_
 cases nb
 ·rw[ZK,Ze]; exact⟨rfl,rfl⟩
 ·rw[ZZ]
  cases ob
  ·rw[ZK,Ze]; exact⟨rfl,rfl⟩
  ·rw[ZZ,Zh]
   refine⟨ha, ?_⟩
   cases b2
   ·simp only[ZK,Qt,Zh,Ze]
    exact⟨fun h=>⟨hb,by rw[h]; rfl,by first | rfl | trivial⟩,fun h=>⟨by rw[h]; rfl,by first | rfl | trivial⟩⟩
   ·rw[ZZ,Ze]; exact⟨rfl,rfl⟩
theorem ZlF (k n:Int) (s:LU) (a:LD):CallL Tryz.prog (.func (.func 81) [] [.ptr 0 0]) [] [(0,.cells (tC k n s a))] fun r o=>r= .bool (decide (n=0) && decide (s=[]) && (decide ((2:Int)<=(a.length:Int)) && decide ((a.length:Int)<=2)))/\o=[(0,.cells (tC k n s a))]:=by
 have ha:=Z2x k n s a 2 2
 generalize (decide ((2:Int)<=(a.length:Int)) && decide ((a.length:Int)<=2))=b at ha ⊢
 refine CallL.tree Z4 fp81 (Zn Z0) (Znd k n s a b) ?_
 simp only[Qt,Zh,Ze]
 exact⟨fun h1=>⟨fun h2=>⟨ha,by rw[h1,h2]; rfl,by first | rfl | trivial⟩,fun h2=>⟨by rw[h1,h2]; rfl,by first | rfl | trivial⟩⟩,fun h1=>⟨by rw[h1]; rfl,by first | rfl | trivial⟩⟩
theorem ZbT:((List.range 256).all fun c=>Lib.contains [43,45,42,47,92] [UInt8.ofNat c] == (decide ([UInt8.ofNat c]=[43]) || decide ([UInt8.ofNat c]=[45]) || decide ([UInt8.ofNat c]=[42]) || decide ([UInt8.ofNat c]=[47]) || decide ([UInt8.ofNat c]=[92])))=true:=by kernel_rfl
theorem Zfm (s:LU):(Lib.contains [43,45,42,47,92] s && decide ((s.length:Int)=1))=(decide (s=[43]) || decide (s=[45]) || decide (s=[42]) || decide (s=[47]) || decide (s=[92])):=by
 by_cases h:s.length=1
 ·match s,h with
  | [c],_ =>
   have:=List.all_eq_true.1 ZbT c.toNat (List.mem_range.2 c.toNat_lt)
   rw[beq_iff_eq] at this
   simp only[UInt8.ofNat_toNat] at this
   rw[this]
   simp
 ·have h1: ¬ ((s.length:Int)=1):=by omega
  have h2: ∀ c:UInt8,s≠[c]:=fun c e=>h (by rw[e]; rfl)
  simp[h1,h2]
theorem ZaZ (k n:Int) (s:LU) (a:LD) (hs:s.length<=4611686018427387904):FK 40 [.agg (tC k n s a)] (.bool (Q2 k n s a.length)):=by
 have hc:FK 73 [.str [43,45,42,47,92],.str s] (.bool (Lib.contains [43,45,42,47,92] s)):=by
  have:=Z2 73 [.str [43,45,42,47,92],.str s] _ rfl
  exact this (by decide)
 have hop:=Zfm s
 have l0:(decide ((0:Int)<=(a.length:Int)) && decide ((a.length:Int)<=0))=decide (a.length=0):=by rw[Bool.eq_iff_iff]; simp
 have l2:(decide ((2:Int)<=(a.length:Int)) && decide ((a.length:Int)<=2))=decide (a.length=2):=by rw[Bool.eq_iff_iff]; simp; omega
 have l1:(decide ((1:Int)<=(a.length:Int)) && decide ((a.length:Int)<=1))=decide (a.length=1):=by rw[Bool.eq_iff_iff]; simp; omega
 have l8:(decide ((1:Int)<=(a.length:Int)) && decide ((a.length:Int)<=8))=(decide (1<=a.length) && decide (a.length<=8)):=by rw[Bool.eq_iff_iff]; simp; omega
 have n2: ∀ y:Bool,(y=true->s≠[])->(decide (n=0) && !decide (s=[]) && y)=(decide (n=0) && y):=fun y h=>by
  cases y
  ·simp
  ·simp[h rfl]
 have sy:Lx.symbolB s=true->s≠[]:=fun h e=>by rw[e] at h; exact absurd h (by decide)
 have va:Lx.variableB s=true->s≠[]:=fun h e=>by rw[e] at h; exact absurd h (by decide)
 have opn:(Lib.contains [43,45,42,47,92] s && decide ((s.length:Int)=1))=true->s≠[]:=fun h e=>by rw[e] at h; simp at h
 have c1:=ZlK k n s a
 have c2:=fun nb=>ZlJ k n s a nb hs
 have c3:=fun nb=>ZlI k n s a nb hs
 have c4:=fun nb=>ZlH k n s a nb hs
 have c5:=fun nb ob=>ZlG k n s a nb ob
 have c6:=ZlF k n s a
 rw[l0] at c1
 simp only[l0] at c2 c3
 simp only[l8] at c4
 simp only[l2,l1] at c5
 rw[l2] at c6
 generalize hB:Q2 k n s a.length=B
 have F1:k=1->CallL Tryz.prog (.func (.func 74) [] [.ptr 0 0]) [] [(0,.cells (tC k n s a))] fun r o=>r= .bool B/\o=[(0,.cells (tC k n s a))]:=fun h=>by
  have e:(decide (-2147483647<=n) && decide (n<=2147483647) && decide (s=[]) && decide (a.length=0))=B:=by rw[<- hB]; unfold Q2; rw[if_pos h]
  rw[<- e]; exact c1
 have F2: ∀ nb,nb=(decide (n=0) && !decide (s=[]))->k=2->CallL Tryz.prog (.func (.func 76) [] [.ptr 0 0,.ptr 1 0]) [] [(0,.cells [.bool nb]),(1,.cells (tC k n s a))] fun r o=>r= .bool B/\o=[(0,.cells [.bool nb]),(1,.cells (tC k n s a))]:=fun nb hn h=>by
  have e:(nb && Lx.symbolB s && decide (a.length=0))=B:=by rw[<- hB,hn,n2 _ sy]; unfold Q2; rw[h]; rfl
  rw[<- e]; exact c2 nb
 have F3: ∀ nb,nb=(decide (n=0) && !decide (s=[]))->k=3->CallL Tryz.prog (.func (.func 78) [] [.ptr 0 0,.ptr 1 0]) [] [(0,.cells [.bool nb]),(1,.cells (tC k n s a))] fun r o=>r= .bool B/\o=[(0,.cells [.bool nb]),(1,.cells (tC k n s a))]:=fun nb hn h=>by
  have e:(nb && Lx.variableB s && decide (a.length=0))=B:=by rw[<- hB,hn,n2 _ va]; unfold Q2; rw[h]; rfl
  rw[<- e]; exact c3 nb
 have F4: ∀ nb,nb=(decide (n=0) && !decide (s=[]))->k=4->CallL Tryz.prog (.func (.func 79) [] [.ptr 0 0,.ptr 1 0]) [] [(0,.cells [.bool nb]),(1,.cells (tC k n s a))] fun r o=>r= .bool B/\o=[(0,.cells [.bool nb]),(1,.cells (tC k n s a))]:=fun nb hn h=>by
  have e:(nb && Lx.symbolB s && (decide (1<=a.length) && decide (a.length<=8)))=B:=by rw[<- hB,hn,n2 _ sy]; unfold Q2; rw[h]; simp only[<- Bool.and_assoc]; rfl
  rw[<- e]; exact c4 nb
 have F5: ∀ nb ob,nb=(decide (n=0) && !decide (s=[]))->ob=(Lib.contains [43,45,42,47,92] s && decide ((s.length:Int)=1))->k=5->CallL Tryz.prog (.func (.func 80) [] [.ptr 0 0,.ptr 1 0,.ptr 2 0]) [] [(0,.cells [.bool nb]),(1,.cells [.bool ob]),(2,.cells (tC k n s a))] fun r o=>r= .bool B/\o=[(0,.cells [.bool nb]),(1,.cells [.bool ob]),(2,.cells (tC k n s a))]:=fun nb ob hn ho h=>by
  have e:(nb && ob && (decide (a.length=2) || decide (s=[45]) && decide (a.length=1)))=B:=by rw[<- hB,hn,ho,n2 _ opn,hop]; unfold Q2; rw[h]; rfl
  rw[<- e]; exact c5 nb ob
 have F6:k=6->CallL Tryz.prog (.func (.func 81) [] [.ptr 0 0]) [] [(0,.cells (tC k n s a))] fun r o=>r= .bool B/\o=[(0,.cells (tC k n s a))]:=fun h=>by
  have e:(decide (n=0) && decide (s=[]) && decide (a.length=2))=B:=by rw[<- hB]; unfold Q2; rw[h]; rfl
  rw[<- e]; exact c6
 have F0: ¬ k=1-> ¬ k=2-> ¬ k=3-> ¬ k=4-> ¬ k=5-> ¬ k=6->false=B:=fun h1 h2 h3 h4 h5 h6=>by rw[<- hB]; unfold Q2; rw[if_neg h1,if_neg h2,if_neg h3,if_neg h4,if_neg h5,if_neg h6]
 generalize Lib.contains [43,45,42,47,92] s=y at hc F5
 refine FnOK.tree Z4 fp40 (Zn (Z3U (.bool B))) (Zmh k n s a y B) ?_
 cases hn:decide (n=0) <;> rw[hn] at F2 F3 F4 F5 <;> cases y
 all_goals
  simp only[ZZ,ZK]
  simp only[Qt,Zh,Ze,decide_eq_true_eq,decide_eq_false_iff_not]
  exact⟨hc,fun h=>⟨F1 h,trivial⟩,fun h1=>⟨fun h=>⟨F2 _ rfl h,trivial⟩,fun h2=>⟨fun h=>⟨F3 _ rfl h,trivial⟩,fun h3=>⟨fun h=>⟨F4 _ rfl h,trivial⟩,fun h4=>⟨fun h=>⟨F5 _ _ rfl rfl h,trivial⟩,fun h5=>⟨fun h=>⟨F6 h,trivial⟩,fun h6=>by rw[F0 h1 h2 h3 h4 h5 h6]⟩⟩⟩⟩⟩⟩
def DepP (x:Tm):Prop:=FK 37 [.agg x.cells] (.int .i64 x.depth)
theorem ZlV {l:List Tm} {i:Nat} (h:i<l.length):(Tm.cellsL l)[i]? = some l[i].cells:=by rw[Zp]; simp[h]
theorem ZlC (l:List Tm) (hl:l.length<=281474976710656) (H: ∀ x∈l,DepP x) (hd: ∀ x∈l,x.depth<=1000000000): ∀ (m i d:Nat),l.length-i=m->i<=l.length->d<=1000000000 →
  At Tryz.prog 0 (cut sc37 0) (hdDe (Tm.cellsL l) l.length d i) (FinQ true 0 rs37 fun r _=>r= .int .i64 (((Nat.max d (Tm.depthL (l.drop i)))+1:Nat):Int)):=by
 intro m
 induction m with
 | zero =>
  intro i d hm hi hd0
  refine At.tree (Zn Z0) (Z70 (Tm.cellsL l) l.length d i 0 0 [] [] 0 0) ?_
  rw[List.drop_eq_nil_of_le (by omega)]
  simp only[SS,Z1]
  refine⟨fun h=>by omega,fun _=>⟨by omega, ?_⟩⟩
  simp[Tm.depthL]
 | succ m ih =>
  intro i d hm hi hd0
  have h1:i<l.length:=by omega
  have hx:=ZlV h1
  have hC:=H _ (List.getElem_mem h1)
  have hb:=hd _ (List.getElem_mem h1)
  have hdr:l.drop i=l[i]::l.drop (i+1):=List.drop_eq_getElem_cons h1
  rw[hdr]
  simp only[Tm.depthL]
  unfold DepP at hC
  generalize Tm.depth l[i]=c at hC hb ⊢
  have hI:=ih (i+1) (Nat.max d c) (by omega) (by omega) (Nat.max_le.2 ⟨hd0,hb⟩)
  have e1:Nat.max (Nat.max d c) (Tm.depthL (l.drop (i+1)))=Nat.max d (Nat.max c (Tm.depthL (l.drop (i+1)))):=Nat.max_assoc ..
  rw[e1] at hI
  have e2:(if (c:Int) > (d:Int) then (c:Int) else (d:Int))=((Nat.max d c:Nat):Int):=by
   have:Nat.max d c=max d c:=rfl
   rw[this]
   split <;> omega
  generalize l[i]=x at hx hC
  obtain⟨kx,nx,sx,ax⟩:=x
  refine At.tree (Zn Z0) (Z70 (Tm.cellsL l) l.length d i kx nx sx (Tm.cellsL ax) c (Nat.max d c:Nat)) ?_
  simp only[SS,Z1,if_true,e2]
  exact⟨fun _=>⟨⟨by omega,hx⟩,hC,by omega,hI⟩,fun h=>by omega⟩
end Go.Proofs.YtobgkdlghljdlaaGreatDoor
/- Valid; the text of a number. -/
namespace Go.Proofs.YtobgkdlghljdlaaGreatDoor
open Go.Sx
theorem Zd3: ∀ x:Tm,x.wf 281474976710656->x.depth<=1000000000->DepP x
 | .mk k n s l,hx,hd=>by
  simp only[Tm.wf] at hx
  obtain⟨hk,hn1,hn2,hs,hl,hw⟩:=hx
  simp only[Tm.depth] at hd
  have hel: ∀ x∈l,x.depth<=Tm.depthL l:=by
   clear hl hw hd
   induction l with
   | nil=>intro x hx; cases hx
   | cons a r ih =>
    intro x hx
    simp only[Tm.depthL]
    rcases List.mem_cons.1 hx with rfl | hx
    ·exact Nat.le_max_left ..
    ·exact Nat.le_trans (ih x hx) (Nat.le_max_right ..)
  have hA:=ZlC l hl (fun x hx=>Zd3 x (QQ.1 hw x hx) (Nat.le_trans (hel x hx) (by omega))) (fun x hx=>Nat.le_trans (hel x hx) (by omega)) _ 0 0 rfl (Nat.zero_le _) (Nat.zero_le _)
  refine FnOK.tree Z4 fp37 (Zn Z0) (Zhl k n s (Tm.cellsL l)) ?_
  rw[Z9,Z1]
  have e:Nat.max 0 (Tm.depthL (l.drop 0))=Tm.depthL l:=Nat.zero_max _
  rw[e] at hA
  exact hA
termination_by x=>SizeOf.sizeOf x
decreasing_by
 have:=List.sizeOf_lt_of_mem hx
 simp only[Tm.mk.sizeOf_spec]
 omega
theorem Znc (k n:Int) (s:LU) (a:LD) (b:Bool):let A:=[dA (tC k n s a)];gC (dCtr [(5,dB b)]) 0 rs39 sc39 [] A [] []=(Ow (FK 40 A (dB b)) (Rt (dB b) []):Tr):=by intro A;kernel_rfl
theorem Z81 (x:Tm) (hx:x.wf 281474976710656):CF 39 [.agg x.cells] [] fun r ob=>r= .bool x.shape/\ob=[]:=by
 obtain⟨k,n,s,l⟩:=x
 simp only[Tm.wf] at hx
 have h:=ZaZ k n s (Tm.cellsL l) (by omega)
 rw[Z1] at h
 simp only[Tm.shape]
 generalize Q2 k n s l.length=b at h ⊢
 refine CallL.tree Z4 fp39 (Zn Z0) (Znc k n s (Tm.cellsL l) b) ?_
 rw[Zh,Ze]
 exact⟨h,rfl,rfl⟩
theorem ZgP (k n:Int) (s:LU) (a:LD) (d:Int) (b:Bool):let A:=tC k n s a;gP (dCtr [(4,dI d)] [] (asmK (dB b))) rs15 sc15 [dA A]=(Ow (FK 37 [dA A] (dI d)) (brT (decide (d<=(12:Int))) (Ow (CF 38 [dA A,dF 39 [] []] [] fun r0 o=>r0=dB b/\o=[]) (Rt (dB b) [])) (Rt (dB false) [])):Tr):=by intro A;kernel_rfl
theorem Z3f (x:Tm) (hx:x.wf 281474976710656) (hd:x.depth<=1000000000):FK 15 [.agg x.cells] (.bool x.valid):=by
 have h1:=Zd3 x hx hd
 have h2:=Z3K (h:=Tm.shape) Z81 x hx
 unfold DepP at h1
 unfold Tm.valid
 have e1:decide (x.depth<=12)=decide ((x.depth:Int)<=12):=by rw[Bool.eq_iff_iff]; simp; omega
 rw[e1]
 generalize x.all Tm.shape=b at h2 ⊢
 generalize (x.depth:Int)=d at h1 ⊢
 obtain⟨k,n,s,l⟩:=x
 refine FnOK.tree Z4 fp15 (Zn (Z3U (.bool b))) (ZgP k n s (Tm.cellsL l) d b) ?_
 rw[Zh,Qt,Zh,Ze,Ze]
 refine⟨h1,fun h=>⟨h2,by rw[h,Bool.true_and]⟩,fun h=>by rw[h,Bool.false_and]⟩
end Go.Proofs.YtobgkdlghljdlaaGreatDoor
/- Value,Ground. -/
namespace Go.Proofs.YtobgkdlghljdlaaGreatDoor
open Go.Sx
theorem Zcm (k n:Int) (s:LU) (a:LD):let A:=Rt (dB true) [];gC (dCtr []) 0 rs41 sc41 [] [dA (tC k n s a)] [] []=(brT (decide (k=(1:Int))) A (brT (decide (k=(2:Int))) A (Rt (dB (decide (k=(4:Int)))) [])):Tr):=by intro A;kernel_rfl
theorem ZhX (k n:Int) (s:LU) (a:LD):gC (dCtr []) 0 rs46 sc46 [] [dA (tC k n s a)] [] []=(Rt (D.bool !decide (k=(3:Int))) []:Tr):=by kernel_rfl
theorem ZgN (k n:Int) (s:LU) (a:LD) (b v:Bool):let A:=tC k n s a;gP (dCtr [(9,dB v)] [] (asmK (dB b))) rs16 sc16 [dA A]=(Ow (CF 38 [dA A,dF 41 [] []] [] fun r0 o=>r0=dB b/\o=[]) (brT b (Ow (FK 15 [dA A] (dB v)) (Rt (dB v) [])) (Rt (dB false) [])):Tr):=by intro A;kernel_rfl
theorem Zmm (k n:Int) (s:LU) (a:LD) (b:Bool):gP (dCtr [] [] (asmK (dB b))) rs21 sc21 [dA (tC k n s a)]=(Ow (CF 38 [dA (tC k n s a),dF 46 [] []] [] fun r0 o=>r0=dB b/\o=[]) (Rt (dB b) []):Tr):=by kernel_rfl
theorem Z80 (x:Tm) (hx:x.wf 281474976710656):CF 41 [.agg x.cells] [] fun r ob=>r= .bool x.plain/\ob=[]:=by
 obtain⟨k,n,s,l⟩:=x
 refine CallL.tree Z4 fp41 (Zn Z0) (Zcm k n s (Tm.cellsL l)) ?_
 have e1:decide ((k:Int)=1)=decide (k=1):=by rw[Bool.eq_iff_iff]; simp; omega
 have e2:decide ((k:Int)=2)=decide (k=2):=by rw[Bool.eq_iff_iff]; simp; omega
 have e4:decide ((k:Int)=4)=decide (k=4):=by rw[Bool.eq_iff_iff]; simp; omega
 simp only[Qt,Ze,Tm.plain,e1,e2,e4]
 exact⟨fun h=>⟨by rw[h]; rfl,by first | rfl | trivial⟩,fun h=>⟨fun h2=>⟨by rw[h2,h]; rfl,by first | rfl | trivial⟩,fun h2=>⟨by rw[h2,h]; rfl,by first | rfl | trivial⟩⟩⟩
theorem Z7E (x:Tm) (hx:x.wf 281474976710656):CF 46 [.agg x.cells] [] fun r ob=>r= .bool x.gr/\ob=[]:=by
 obtain⟨k,n,s,l⟩:=x
 refine CallL.tree Z4 fp46 (Zn Z0) (ZhX k n s (Tm.cellsL l)) ?_
 have e1:decide ((k:Int)=3)=decide (k=3):=by rw[Bool.eq_iff_iff]; simp; omega
 rw[Ze,e1]
 exact⟨rfl,rfl⟩
theorem Z9e (x:Tm) (hx:x.wf 281474976710656):FK 21 [.agg x.cells] (.bool (x.all Tm.gr)):=by
 have h2:=Z3K (h:=Tm.gr) Z7E x hx
 generalize x.all Tm.gr=b at h2 ⊢
 obtain⟨k,n,s,l⟩:=x
 refine FnOK.tree Z4 fp21 (Zn (Z3U (.bool b))) (Zmm k n s (Tm.cellsL l) b) ?_
 rw[Zh,Ze]
 exact⟨h2,rfl⟩
theorem Z5U (x:Tm) (hx:x.wf 281474976710656) (hd:x.depth<=1000000000):FK 16 [.agg x.cells] (.bool (x.all Tm.plain && x.valid)):=by
 have h1:=Z3f x hx hd
 have h2:=Z3K (h:=Tm.plain) Z80 x hx
 generalize x.all Tm.plain=b at h2 ⊢
 generalize x.valid=v at h1 ⊢
 obtain⟨k,n,s,l⟩:=x
 refine FnOK.tree Z4 fp16 (Zn (Z3U (.bool b))) (ZgN k n s (Tm.cellsL l) b v) ?_
 rw[Zh,Qt,Zh,Ze,Ze]
 exact⟨h2,fun h=>⟨h1,by rw[h,Bool.true_and]⟩,fun h=>by rw[h,Bool.false_and]⟩
end Go.Proofs.YtobgkdlghljdlaaGreatDoor
