/- Own work: a layer over the kit: plain data,a walk over it,its soundness. -/
import Derived.Test.YtecgehidegnmnaaGreatDoorClass
import Derived.Test.YtecgehidegnmnaaGreatDoorPrSa
import Derived.Test.YtecgehidegnmnaaGreatDoorSx11
set_option linter.unusedSectionVars false
set_option linter.unusedVariables false
set_option linter.unusedSimpArgs false
set_option linter.deprecated false
set_option maxRecDepth 100000
/- Join. -/
open Go.Sx.Ps (Zk Zii)
namespace Go.Proofs.YtecgehidegnmnaaGreatDoor
open Go.Sx
end Go.Proofs.YtecgehidegnmnaaGreatDoor
/- Tokens only. -/
namespace Go.Proofs.YtecgehidegnmnaaGreatDoor
open Go.Sx
open Go.Sx.Lx (Tk Zq)
open Go.Sx.Ps (Ac)
theorem Zkw {F:Nat->PT} (h: ∀ x,(F x).OK) {E:Nat->Int->List D}:(⟨F,fun _=>Z1j,E⟩:Ctr).OK Tryz.prog:=⟨h,fun _=>Z5⟩
end Go.Proofs.YtecgehidegnmnaaGreatDoor
/- Programs behind each other. -/
namespace Go.Proofs.YtecgehidegnmnaaGreatDoor
open Go.Sx
open Go.Sx.Lx (Tk Zq)
open Go.Sx.Ps (Ac)
theorem Zkk (a b:LU) (rl cl sl:LD) (so:Bool) (pa pe:Int) (rl2 cl2 sl2:LD) (so2:Bool) (qa qe:Int) (rl3 cl3 sl3:LD) (so3:Bool) (ra re:Int) (t:Bool):let A:=(↑(List.length cl2):Int);let B:=(↑(List.length cl):Int);let E:=(↑(List.length rl2):Int);let G:=(↑(List.length rl):Int);let H:=(↑(List.length sl2):Int);let I:=(↑(List.length sl):Int);let J:=Rt (dB false) [];let K:=(↑(List.length a):Int);let L:=Rt (dB true) [];let M:=[dA [dL rl2 [],dL cl2 [],dL sl2 [],dB so2],dI qa,dI qe];let N:=[dA [dL rl3 [],dL cl3 [],dL sl3 [],dB so3],dI ra,dI re];let O:=[dA [dL rl [],dL cl [],dL sl [],dB so],dI pa,dI pe];let P:=FK 10 [dL rl3 [],dL ([]++rl++rl2) []] (dB t);let Q:=(↑(List.length cl3):Int);let R:=(↑(List.length sl3):Int);let S:=(qa+K+(1:Int));let T:=[(10:UInt8)];goT Tryz.prog { F:=fun x=>fnT (if x=33 then [(9,D.tuple M)] else if x=42 then [(9,D.tuple N)] else [(8,dB true),(9,D.tuple O),(10,dB t)]),C:=fun x=>Z1j } 0 (finF true 0 rs3) 2000 [Fr.sc sc3] { tm:=Zv 0 [dS a,dS b],ob:=[] }=(Ow (FK 8 [] (dB true)) (brT (decide ((2000:Int)<K)) L (brT (decide ((2000:Int)<(↑(List.length b):Int))) L (Ow (FK 9 [dS a] (D.tuple O)) (Ow (FK 9 [dS b] (D.tuple M)) (Ow (List.length a+1<=4611686018427387904) (Ow (List.length (a++T)+List.length b<=4611686018427387904) (Ow (FK 9 [dS (a++T++b)] (D.tuple N)) (brT (!decide (pe=(0:Int))) L (I8 (G+E) (I8 (B+A) (I8 (I+H) (brT (decide (qe=(0:Int))) (brT (decide ((if true=true then if I+H > if true=true then if B+A > G+E then B+A else G+E else if B+A<G+E then B+A else G+E then I+H else if true=true then if B+A > G+E then B+A else G+E else if B+A<G+E then B+A else G+E else if I+H<if true=true then if B+A > G+E then B+A else G+E else if B+A<G+E then B+A else G+E then I+H else if true=true then if B+A > G+E then B+A else G+E else if B+A<G+E then B+A else G+E)<=(400:Int))) (brT (decide (re=(0:Int))) (brT so (brT (so3 == true) (Ow (Zr 20 rl/\0+List.length rl<=1073741824) (Ow (Zr 20 rl2/\List.length ([]++rl)+List.length rl2<=1073741824) (Ow P (brT t (I8 (B+A) (brT (decide (Q=B+A)) (I8 (I+H) (Rt (dB (decide (R=I+H))) [])) J)) J)))) J) (brT (so3 == so2) (Ow (Zr 20 rl/\0+List.length rl<=1073741824) (Ow (Zr 20 rl2/\List.length ([]++rl)+List.length rl2<=1073741824) (Ow P (brT t (I8 (B+A) (brT (decide (Q=B+A)) (I8 (I+H) (Rt (dB (decide (R=I+H))) [])) J)) J)))) J)) J) (brT (!decide (re=(0:Int))) (brT (decide (re=(5:Int))) L (brT (decide (re=qe)) (I8 (qa+K) (I8 S (Rt (dB (decide (ra=qa+K+(1:Int)))) []))) J)) J)) (brT (!decide (re=(0:Int))) (brT (decide (re=(5:Int))) L (brT (decide (re=qe)) (I8 (qa+K) (I8 S (Rt (dB (decide (ra=qa+K+(1:Int)))) []))) J)) J))))))))))))):Tr):=by intro A B E G H I J K L M N O P Q R S T;kernel_rfl
theorem Z9m (l k:List Ru):ruL l++ruL k=ruL (l++k):=by simp[ruL]
theorem Zij (l:List Ru):Zr 20 (ruL l):=Z8y (f:=Ru.cs) (fun r=>by simp[Ru.cs,Qb]) l
theorem pv (s:LU):Ps.AcV (Zk s).1:=by
 unfold Zk Ps.Za5
 split
 ·rename_i h
  exact Ps.ZiF (Ps.Z4q h) s
 ·exact Ps.Zll
theorem mx3 {r c s n:Int}:(if s > (if c > r then c else r) then s else (if c > r then c else r))<=n ↔ r<=n/\c<=n/\s<=n:=by
 by_cases h1:c > r
 ·rw[if_pos h1]
  by_cases h2:s > c
  ·rw[if_pos h2]; omega
  ·rw[if_neg h2]; omega
 ·rw[if_neg h1]
  by_cases h2:s > r
  ·rw[if_pos h2]; omega
  ·rw[if_neg h2]; omega
theorem Z8x (hA:FK 8 [] (.bool true)) (a b:LU):FK 3 [.str a,.str b] (.bool true):=by
 have hP:=Z4w a
 have hP2:=Z4w b
 have hP3:=Z4w (a++[10]++b)
 refine FnOK.tree Z7 fp3 (Zkw fun _=>ZjB _) (Zkk a b (ruL (Zk a).1.r) (coL (Zk a).1.c) (shL (Zk a).1.s) (Zk a).1.so (Zk a).2.1 (Zk a).2.2 (ruL (Zk b).1.r) (coL (Zk b).1.c) (shL (Zk b).1.s) (Zk b).1.so (Zk b).2.1 (Zk b).2.2 (ruL (Zk (a++[10]++b)).1.r) (coL (Zk (a++[10]++b)).1.c) (shL (Zk (a++[10]++b)).1.s) (Zk (a++[10]++b)).1.so (Zk (a++[10]++b)).2.1 (Zk (a++[10]++b)).2.2 true) ?_
 simp only[SS,Z0U,ZaO,Z2G]
 refine⟨hA,fun _=>trivial,fun ha=>⟨fun _=>trivial,fun hb=>⟨hP,hP2,by omega,by simp only[List.length_append,List.length_cons,List.length_nil]; omega,hP3,fun _=>trivial,fun he=> ?_⟩⟩⟩
 obtain⟨g1,g2⟩:=Ps.Zb0 (a:=a) (b:=b) (by omega) (by omega) he
 have va:=pv a
 have vb:=pv b
 have vc:=pv (a++[10]++b)
 have a1:=va.rl; have a2:=va.cl; have a3:=va.sl
 have b1:=vb.rl; have b2:=vb.cl; have b3:=vb.sl
 have c1:=vc.rl; have c2:=vc.cl; have c3:=vc.sl
 refine⟨by omega,by omega,by omega, ?_⟩
 have hW: ∀ x∈(Zk a).1.r++(Zk b).1.r,Ps.RuW x:=fun x hx=>by
  rcases List.mem_append.1 hx with h | h
  ·exact Zii (va.r x h)
  ·exact Zii (vb.r x h)
 have hS:=Zi4 ((Zk a).1.r++(Zk b).1.r) hW (by rw[List.length_append]; omega)
 have hall: ∀ l:List Ru,Zr 20 (ruL l):=Zij
 refine⟨fun hf=>⟨fun hn=> ?_,fun hn=> ?_⟩,fun hf=> ?_⟩
 ·simp only[if_true,eq_self] at hn
  have hn':=mx3.1 hn
  clear hn
  rcases g1 hf with ⟨k1,k2⟩ | ⟨k1,ho⟩
  ·rw[k2]
   refine⟨fun _=>⟨fun hso=>⟨fun _=>⟨⟨hall _,by omega⟩,⟨hall _,by simp[ruL]; omega⟩, ?_,⟨by omega,fun _=>⟨by omega, ?_⟩,fun h=>absurd ?_ h⟩,nofun⟩,fun h=> ?_⟩,fun hso=>⟨fun _=>⟨⟨hall _,by omega⟩,⟨hall _,by simp[ruL]; omega⟩, ?_,⟨by omega,fun _=>⟨by omega, ?_⟩,fun h=>absurd ?_ h⟩,nofun⟩,fun h=> ?_⟩⟩,fun h=>absurd k1 h⟩
   ·rw[List.nil_append,Z9m]; exact hS
   ·simp[Ps.Ac.app]
   ·simp[Ps.Ac.app]
   ·simp[Ps.Ac.app,hso] at h
   ·rw[List.nil_append,Z9m]; exact hS
   ·simp[Ps.Ac.app]
   ·simp[Ps.Ac.app]
   ·simp[Ps.Ac.app,hso] at h
  ·unfold Ps.ZhC at ho
   omega
 ·simp only[if_true,eq_self] at hn
  have hn':=fun h=>hn (mx3.2 h)
  clear hn
  rcases g1 hf with ⟨k1,k2⟩ | ⟨k1,ho⟩
  ·rw[k2] at c1 c2 c3
   simp only[Ps.Ac.app,List.length_append] at c1 c2 c3
   exact absurd ⟨by omega,by omega,by omega⟩ hn'
  ·exact⟨fun _=>⟨fun _=>trivial,fun h=>absurd k1 h⟩,fun h=>by omega⟩
 ·obtain⟨k1,k2⟩:=g2 hf
  refine⟨fun _=>⟨fun _=>trivial,fun h5=> ?_⟩,fun h=>absurd h k1⟩
  rcases k2 with k2 | ⟨k2,k3,k4,k5⟩
  ·exact absurd k2 h5
  ·exact⟨fun _=>⟨by omega,by omega,k3⟩,fun h=>absurd k2 h⟩
end Go.Proofs.YtecgehidegnmnaaGreatDoor
