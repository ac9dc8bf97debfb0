/- Own work: a layer over the kit: plain data,a walk over it,its soundness. -/
import Derived.Test.YtobgkdlghljdlaaGreatDoorArXpB
import Derived.Test.YtobgkdlghljdlaaGreatDoorSx11
set_option linter.unusedSectionVars false
set_option linter.unusedVariables false
set_option linter.unusedSimpArgs false
set_option linter.deprecated false
set_option maxRecDepth 100000
/- Too many: limited,interval,the rows of lists of numbers. -/
namespace Go.Proofs.YtobgkdlghljdlaaGreatDoor
open Go.Sx
abbrev ZF:Value:= .iface 79 (.agg #[])
def Za0:QT:=fun d xs ob=>some (.ok (CallL Tryz.prog d xs ob fun r0 ob0=>r0= .pan ZF/\ob0=[]) (.pan ZF) [])
theorem Z4H:Za0.OK:=by intro d xs ob rt h; cases h; exact fun hp=>hp
def asmJ (b:Bool) (r:D) (g:Obs->Obs):QT:=fun d xs ob=>some (.br b (.ok (CallL Tryz.prog d xs ob fun r0 ob0=>r0=r/\ob0=g ob) r (g ob)) (.ok (CallL Tryz.prog d xs ob fun r0 ob0=>r0= .pan ZF/\ob0=[]) (.pan ZF) []))
theorem Z0j (b:Bool) (r:D) (g:Obs->Obs):(asmJ b r g).OK:=by
 intro d xs ob rt h
 cases h
 cases b
 ·exact fun hp=>hp
 ·exact fun hp=>hp
theorem Zab (n:Int):gC (ctr libT) 0 ZcF ZcB [] [dI n] [] []=(brT (decide ((1000:Int)<n)) (Rt (D.pan (Value.iface 79 (Value.agg #[]))) []) (Rt (dI n) []):Tr):=by kernel_rfl
theorem ZfG (n:Int) (h:n<=1000):CF 116 [.int .i64 n] [] fun r ob=>r= .int .i64 n/\ob=[]:=by
 refine CallL.tree Z4 ZcX (Z3 Z2 Z0) (Zab n) ?_
 simp only[SS]
 exact⟨fun h=>by omega,fun _=>trivial⟩
theorem ZfF (n:Int) (h:1000<n):CF 116 [.int .i64 n] [] fun r ob=>r= .pan ZF/\ob=[]:=by
 refine CallL.tree Z4 ZcX (Z3 Z2 Z0) (Zab n) ?_
 simp only[SS]
 exact⟨fun h=>trivial,fun _=>by omega⟩
def limQ:QT:=fun d xs ob=>match d,xs,ob with
 | .func (.func f) [] [],[.int .i64 n],[]=>if f=116 then some (.br (decide (1000<n)) (.ok (1000<n) (.pan ZF) []) (.ok (n<=1000) (.int .i64 n) [])) else none
 | _,_,_=>none
theorem Z5i:limQ.OK:=by
 intro d xs ob rt h
 unfold limQ at h
 split at h
 ·split at h
  ·rename_i n hf
   subst hf
   cases h
   by_cases hn:1000<n
   ·simp only[hn,decide_true]; exact fun _=>ZfF _ hn
   ·simp only[hn,decide_false]; exact fun _=>ZfG _ (by omega)
  ·cases h
 ·cases h
theorem Zha (es fs:LD) (a b:Int):let A:=[(0,oR true 4 35 [])];let B:=(1000:Int);let G:=Rt (dV 0) A;goT Tryz.prog { F:=fun t=>if t=17 then asmP (dI a) else asmP (dI b),C:=fun x=>limQ,E:=noE } 0 (finF false 0 Zja) 2000 [Fr.sc Ze2] { tm:=Q0 0 ([]++[dL es [],dL fs []]++[]),ob:=[] }=(brT (decide ((↑(List.length es):Int)=(0:Int))) G (brT (decide ((↑(List.length fs):Int)=(0:Int))) G (Ow (FK 114 [dL es []] (dI a)) (Ow (FK 115 [dL fs []] (dI b)) (I8 (b-a) (I8 (b-a+(1:Int)) (brT (decide (B<b-a+(1:Int))) (Ow (B<b-a+(1:Int)) (Rt (D.pan ZF) [])) (Ow (b-a+(1:Int)<=B) (Jm (cut Ze2 0) { tm:=[(4,dV 0),(6,dI b),(7,dI a)],ob:=A })))))))):Tr):=by intro A B G;kernel_rfl
def ZcH (st:LoopState) (pend:Option Code) (ds:List D):Ob:= .gen (.loop st pend #[29] (ZM.rngA 0) (ZM.rngB 0) 56 Z2R) ds
def obOP (s:LU) (es:LD) (ks vs:List D):Obs:=[(0,.cells [.slice es []]),(1,ZcH .ready none (dsOp 0 2 3 4)),(2,.arr true 1 110 es),(3,.cells [.str s]),(4,.cells [.map 5]),(5,.gen (.mapC ks vs) [])]
def obFP (s:LU) (es row:LD) (ks vs:List D):Obs:=[(0,.cells [.slice es []]),(1,.cells [.yld 4]),(2,.cells [.vec 5]),(3,.cells [.func (.func 140) [] [.ptr 0 0,.ptr 1 0,.ptr 2 0,.ptr 3 0]]),
 (4,.gen (.loop .ready none #[29] (ZM.rngA 0) (ZM.rngB 0) 56 [28,27,2,5,8]) [.func (.func 139) [] [.ptr 0 0],.vec 6,.ptr 7 0,.vec 6,.ptr 8 0]),(5,.arr false 1 3 row),(6,.arr true 1 110 es),(7,.cells [.str s]),(8,.cells [.map 9]),(9,.gen (.mapC ks vs) [])]
theorem ZhV (s:LU) (es:LD) (ks vs:List D) (b:Bool) (row':LD) (ks' vs':List D):let A:=[dP 0 0,dP 1 0,dP 2 0,dP 3 0];let B:=(↑(List.length es):Int);let C:=[dF 139 [] [dP 0 0],dV 6,dP 7 0,dV 6,dP 8 0];let E:=(5,oR false 1 3 (List.replicate (Int.toNat B) [dI (0:Int)]));let F:=(0,oC [dL es []]);let G:=(3,oC [dF 140 [] A]);let H:=(6,oR true 1 110 es);let I:=(1,oC [D.yld 4]);let J:=(8,oC [D.map 9]);let K:=(9,Ob.gen (Gen.mapC ks vs) []);let L:=(2,oC [dV 5]);let M:=(7,oC [dS s]);let N:=Gen.mapC ks' vs';let O:=dF 140 [] A;let P:=[dI (0:Int)];gC (ctr libT (asmJ b (dB true) (updO row' ks' vs'))) 6 ZcE ZcA [] [D.yld 1] [dP 0 0] (obOP s es ks vs)=(Ow ((0:Int)<=B/\B*(8:Int)<=(281474976710656:Int)/\B<=(1073741824:Int)) (brT b (Ow (CallL Tryz.prog O P [F,I,L,G,(4,gL .ready none #[29] ZM 0 56 [28,27,2,5,8] C),E,H,M,J,K] fun r0 ob0=>r0=dB true/\ob0=[F,I,L,G,(4,gL .ready none #[29] ZM 0 56 [28,27,2,5,8] C),(5,oR false 1 3 row'),H,M,J,(9,Ob.gen N [])]) (Rt (D.tuple []) [F,(1,gL .ready none #[29] ZM 0 56 [28,27,2,5,8] [dF 139 [] [dP 0 0],dV 2,dP 3 0,dV 2,dP 4 0]),(2,oR true 1 110 es),(3,oC [dS s]),(4,oC [D.map 5]),(5,Ob.gen N [])])) (Ow (CallL Tryz.prog O P [F,I,L,G,(4,gL .ready none #[29] ZM 0 56 [28,27,2,5,8] C),E,H,M,J,K] fun r0 ob0=>r0=D.pan ZF/\ob0=[]) (Rt (D.pan ZF) []))):Tr):=by intro A B C E F G H I J K L M N O P;kernel_rfl
theorem ZaB (s:LU) (es row xs row':LD) (ks vs ks' vs':List D) (k:Int) (b:Bool):let A:=(3,oC [dF 140 [] [dP 0 0,dP 1 0,dP 2 0,dP 3 0]]);let B:=[dF 139 [] [dP 2 0],dV 3,dP 4 0,dV 3,dP 5 0];let C:=[dF 139 [] [dP 0 0],dV 6,dP 7 0,dV 6,dP 8 0];let E:=(3,oR true 1 110 es);let F:=[dL es []];let G:=(5,oC [D.map 6]);let H:=Gen.mapC ks vs;let I:=(1,oC [D.yld 4]);let J:=(4,oC [dS s]);let K:=(2,oC [dV 5]);let L:=(1,oR false 1 3 row);let M:=(6,oR true 1 110 es);let N:=Gen.mapC ks' vs';let O:=(8,oC [D.map 9]);let P:=(6,Ob.gen H []);let Q:=(7,oC [dS s]);gC (ctr libT (asmJ b (dB true) (updO row' ks' vs')) (eOne [dL xs []])) 10 Z67 Z49 [] [dI k] [dP 0 0,dP 1 0,dP 2 0,dP 3 0] (obFP s es row ks vs)=(brT (decide (k=(↑(List.length es):Int))) (brT b (Ow (CallL Tryz.prog (D.yld 0) [dV 1] [(0,gL .ready none #[29] ZM 0 56 [28,27,2,5,8] B),L,(2,oC F),E,J,G,P] fun r0 ob0=>r0=dB true/\ob0=[(0,gL .ready none #[29] ZM 0 56 [28,27,2,5,8] B),(1,oR false 1 3 row'),(2,oC F),E,J,G,(6,Ob.gen N [])]) (Rt (dB true) [(0,oC F),I,K,A,(4,gL .ready none #[29] ZM 0 56 [28,27,2,5,8] C),(5,oR false 1 3 row'),M,Q,O,(9,Ob.gen N [])])) (Ow (CallL Tryz.prog (D.yld 0) [dV 1] [(0,gL .ready none #[29] ZM 0 56 [28,27,2,5,8] B),L,(2,oC F),E,J,G,P] fun r0 ob0=>r0=D.pan ZF/\ob0=[]) (Rt (D.pan ZF) [I,K,A]))) (Ow ((0:Int)<=k/\es[Int.toNat k]? = some [dL xs []]) (Jm (cut Z49 0) { tm:=[(0,dI k),(3,dP 2 0),(4,dP 3 0),(19,dL xs []),(20,dI (↑(List.length xs):Int)),(21,dI (0:Int))],ob:=[(0,oC F),I,K,A,(4,gL .ready none #[29] ZM 0 56 [28,27,2,5,8] C),(5,oR false 1 3 row),M,Q,O,(9,Ob.gen H [])] })):Tr):=by intro A B C E F G H I J K L M N O P Q;kernel_rfl
theorem Z74 (s:LU) (es row xs row':LD) (ks vs ks' vs':List D) (k m:Int) (i:Nat) (x:Int) (b:Bool):let A:=(3,oC [dF 140 [] [dP 0 0,dP 1 0,dP 2 0,dP 3 0]]);let B:=[dF 139 [] [dP 0 0],dV 6,dP 7 0,dV 6,dP 8 0];let C:=(6,oR true 1 110 es);let E:=(0,oC [dL es []]);let F:=(1,oC [D.yld 4]);let G:=(8,oC [D.map 9]);let H:=(9,Ob.gen (Gen.mapC ks vs) []);let I:=(5,oR false 1 3 (List.set row (Int.toNat k) [dI x]));let J:=(2,oC [dV 5]);let K:=(7,oC [dS s]);let L:=dF 140 [] [dP 0 0,dP 1 0,dP 2 0,dP 3 0];let M:=(9,Ob.gen (Gen.mapC ks' vs') []);let N:=(k+(1:Int));let O:=(5,oR false 1 3 row');let P:=((↑i:Int)+(1:Int));let Q:=cut Z49 0;gH (ctr libT (asmJ b (dB true) (updO row' ks' vs')) (eOne [dI x])) 10 false Z67 Q (hdF k m (↑i:Int) xs (obFP s es row ks vs))=(brT (decide ((↑i:Int)<m)) (Ow ((0:Int)<=(↑i:Int)/\xs[Int.toNat (↑i:Int)]? = some [dI x]) (Ow ((0:Int)<=k/\k<(↑(List.length row):Int)) (Ow (Int.toNat k<List.length row) (I8 N (brT b (Ow (CallL Tryz.prog L [dI N] [E,F,J,A,(4,gL .ready none #[29] ZM 0 56 [28,27,2,5,8] B),I,C,K,G,H] fun r0 ob0=>r0=dB true/\ob0=[E,F,J,A,(4,gL .ready none #[29] ZM 0 56 [28,27,2,5,8] B),O,C,K,G,M]) (I8 P (Jm Q { tm:=[(0,dI k),(3,dP 2 0),(4,dP 3 0),(19,dL xs []),(20,dI m),(21,dI P)],ob:=[E,F,J,A,(4,gL .ready none #[29] ZM 0 56 [28,27,2,5,8] B),O,C,K,G,M] }))) (Ow (CallL Tryz.prog L [dI N] [E,F,J,A,(4,gL .ready none #[29] ZM 0 56 [28,27,2,5,8] B),I,C,K,G,H] fun r0 ob0=>r0=D.pan ZF/\ob0=[]) (Rt (D.pan ZF) []))))))) (Rt (dB true) [E,F,J,A,(4,gL .ready none #[29] ZM 0 56 [28,27,2,5,8] B),(5,oR false 1 3 row),C,K,G,H]):Tr):=by intro A B C E F G H I J K L M N O P Q;kernel_rfl
theorem ZgI (s:LU) (es row:LD) (ks vs ks' vs':List D) (b:Bool) (n m:Int):let A:=[dF 139 [] [dP 2 0],dV 3,dP 4 0,dV 3,dP 5 0];let B:=(1,oR false 1 3 row);let C:=(3,oR true 1 110 es);let E:=(2,oC [dL es []]);let F:=(6,Ob.gen (Gen.mapC ks' vs') []);let G:=(5,oC [D.map 6]);let H:=(4,oC [dS s]);let I:=[(0,oR false 1 3 row)];let J:=(1000:Int);let K:=dsOp 2 3 4 5;let L:=[dI n,dB b];yldTJ Tryz.prog (ctr limP (QT.or limQ (asmA (D.tuple L) id)) (eMap ks' vs' (dI m))) 7 0 56 #[29] (SC.rngA ZM 0) (SC.rngB ZM 0) Z2R K 2000 { tm:=putP (List.zip [29] [dV 1]) (List.zip Z2R K),ob:=obY s es row ks vs }=(Ow (CF 119 [dS s,dV 0] I fun r0 ob0=>r0=D.tuple L/\ob0=I) (brT b (Ow (mput (dI n) (dI n) ks vs=some (ks',vs')) (Ow (some (dI (↑(List.length ks'):Int))=some (dI m)) (brT (decide (J<m)) (Ow (J<m) (Rt (D.pan ZF) [(0,gL .busy none #[29] ZM 0 56 [28,27,2,5,8] A),B,E,C,H,G,F])) (Ow (m<=J) (Rt (dB true) [(0,gL .ready none #[29] ZM 0 56 [28,27,2,5,8] A),B,E,C,H,G,F]))))) (Rt (dB true) [(0,gL .ready none #[29] ZM 0 56 [28,27,2,5,8] A),B,E,C,H,G,(6,Ob.gen (Gen.mapC ks vs) [])])):Tr):=by intro A B C E F G H I J K L;kernel_rfl
theorem Zkr (a b:Int):(⟨fun t=>if t=17 then asmP (.int .i64 a) else asmP (.int .i64 b),fun _=>limQ,noE⟩:Ctr).OK Tryz.prog:=by
 refine⟨fun t=> ?_,fun _=>Z5i⟩
 show PT.OK (if t=17 then asmP (.int .i64 a) else asmP (.int .i64 b))
 split
 ·exact Zl _
 ·exact Zl _
theorem Zks (lo hi:List Int) (h1:lo.length<=1000) (h2:hi.length<=1000) (hlo: ∀ x∈lo,Zj x=true) (hhi: ∀ x∈hi,Zj x=true) (h:ivl lo hi=none) :
  CF 86 [.slice (intC .i64 lo) [],.slice (intC .i64 hi) []] [] fun r ob=>r= .pan ZF/\ob=[]:=by
 refine CallL.tree Z4 ZnT (Zkr (minI lo) (maxI hi)) (Zha (intC .i64 lo) (intC .i64 hi) (minI lo) (maxI hi)) ?_
 simp only[SS,Zy]
 unfold ivl at h
 split at h
 ·cases h
 ·rename_i he
  split at h
  ·cases h
  ·rename_i h5
   have n1:lo≠[]:=fun e=>he (.inl (by rw[e]; rfl))
   have n2:hi≠[]:=fun e=>he (.inr (by rw[e]; rfl))
   have f1:=Zo.1 (hlo _ (Z3y n1))
   have f2:=Zo.1 (hhi _ (Z3A n2))
   have l1:=List.length_pos_iff.2 n1
   have l2:=List.length_pos_iff.2 n2
   exact⟨fun h=>by omega,fun _=>⟨fun h=>by omega,fun _=>⟨ZcR lo n1 (by omega),ZcT hi n2 (by omega),by omega,by omega,fun _=>by omega,fun h=>by omega⟩⟩⟩
def RJ (z:Nat) (r0:D) (X:Obs):D->Obs->Prop:=fun r o=>(z<=1000->r=r0/\o=X)/\(1000<z->r= .pan ZF)
theorem Zbe {z:Nat} {r0:D} {X:Obs} (h:z<=1000):RJ z r0 X r0 X:=⟨fun _=>⟨rfl,rfl⟩,fun h'=>by omega⟩
theorem Z8D {z:Nat} {r0:D} {X o:Obs} (h:1000<z):RJ z r0 X (.pan ZF) o:=⟨fun h'=>by omega,fun _=>rfl⟩
def CJ (d:D) (args:List D) (ob:Obs) (z:Nat) (r0:D) (X:Obs):Prop :=
 (z<=1000->CallL Tryz.prog d args ob fun r o=>r=r0/\o=X)/\(1000<z->CallL Tryz.prog d args ob fun r o=>r= .pan ZF/\o=[])
theorem Zgp {d:D} {args:List D} {ob:Obs} {z:Nat} {r0:D} {X:Obs} (h:CallL Tryz.prog d args ob (RJ z r0 X)):CJ d args ob z r0 X :=
 ⟨fun hz=>h.mono fun _ _ hr=>hr.1 hz,fun hz=>h.pdrop fun _ _ hr=>hr.2 hz⟩
def yObP (s:LU) (es row:LD) (ks vs:List D):Obs:=(0,ZcH .ready none (dsOp 2 3 4 5))::obY s es row ks vs
theorem Zdy (s:LU) (L:List (List Int)) (row acc:List Int) (hr:row.length<=4611686018427387904) (hacc:acc.length<=1000) :
  CJ (.yld 0) [.vec 1] (yObP s (lisD L) (intC .i64 row) (intD acc) (intD acc)) (opB s row acc).length (.bool true) (yObP s (lisD L) (intC .i64 row) (intD (opB s row acc)) (intD (opB s row acc))):=by
 refine Zgp ?_
 refine CallL.yldTJ Z4 (Z3 Z0h (QT.or_ok Z5i (Zw _ _))) rfl (ZgI s (lisD L) (intC .i64 row) (intD acc) (intD acc) (intD (opB s row acc)) (intD (opB s row acc)) (QP s row).isSome ((QP s row).getD 0) (opB s row acc).length) ?_
 simp only[SS,Z3E]
 refine⟨Z9O s row hr,fun hb=> ?_,fun hb=> ?_⟩
 ·obtain⟨n,hn⟩:=Option.isSome_iff_exists.1 hb
  have e:opB s row acc=insI n acc:=by unfold opB; rw[hn]
  rw[e,hn]
  refine⟨Z3x n acc,fun h=>⟨by omega,Z8D (by omega)⟩,fun h=>⟨by omega,Zbe (by omega)⟩⟩
 ·have e:opB s row acc=acc:=by
   unfold opB
   cases hq:QP s row with
   | none=>rfl
   | some n=>rw[hq] at hb; cases hb
  rw[e]
  exact Zbe hacc
def FilJ (s:LU) (L:List (List Int)) (k:Nat) (row acc:List Int):Prop:=CJ (.func (.func 140) [] [.ptr 0 0,.ptr 1 0,.ptr 2 0,.ptr 3 0]) [.int .i64 k] (obFP s (lisD L) (intC .i64 row) (intD acc) (intD acc))
 (Zb (opB s) (L.drop k) k (row,acc)).2.length (.bool true) (obFP s (lisD L) (intC .i64 (Zb (opB s) (L.drop k) k (row,acc)).1) (intD (Zb (opB s) (L.drop k) k (row,acc)).2) (intD (Zb (opB s) (L.drop k) k (row,acc)).2))
abbrev fldI (s:LU) (L:List (List Int)) (k:Nat) (l:List Int) (p:List Int × List Int):List Int × List Int:=l.foldl (fun p x=>Zb (opB s) (L.drop (k+1)) (k+1) (p.1.set k x,p.2)) p
theorem Zg5 (s:LU) (L:List (List Int)) (k:Nat) (hk:k<L.length) (hL:L.length<=1073741824) (l:List Int) (hl:l.length<=1073741824)
  (HF: ∀ row acc,row.length=L.length->acc.length<=1000->FilJ s L (k+1) row acc): ∀ (m i:Nat) (row acc:List Int),l.length-i=m->i<=l.length->row.length=L.length->acc.length<=1000 →
  At Tryz.prog 10 (cut Z49 0) (hdF k l.length i (intC .i64 l) (obFP s (lisD L) (intC .i64 row) (intD acc) (intD acc))) (FinQ false 10 Z67
   (RJ (fldI s L k (l.drop i) (row,acc)).2.length (.bool true) (obFP s (lisD L) (intC .i64 (fldI s L k (l.drop i) (row,acc)).1) (intD (fldI s L k (l.drop i) (row,acc)).2) (intD (fldI s L k (l.drop i) (row,acc)).2)))):=by
 intro m
 induction m with
 | zero =>
  intro i row acc hm hi hrow hz
  refine At.tree (Z3 Z2 (Z0j true _ _)) (Z74 s (lisD L) (intC .i64 row) (intC .i64 l) [] (intD acc) (intD acc) [] [] k l.length i 0 true) ?_
  have e:l.drop i=[]:=List.drop_eq_nil_of_le (by omega)
  rw[e]
  simp only[SS]
  exact⟨fun h=>by omega,fun _=>Zbe hz⟩
 | succ m ih =>
  intro i row acc hm hi hrow hz
  have h1:i<l.length:=by omega
  simp only[fldI]
  rw[Za h1,List.foldl_cons]
  have hlen:(Zb (opB s) (L.drop (k+1)) (k+1) (row.set k l[i],acc)).1.length=L.length:=by rw[Qc]; simpa using hrow
  have hmono:=Qo (z:=List.length) (Z8P s) (L.drop (k+1)) k (l.drop (i+1)) (Zb (opB s) (L.drop (k+1)) (k+1) (row.set k l[i],acc))
  have hC:=HF (row.set k l[i]) acc (by simpa using hrow) hz
  unfold FilJ CJ at hC
  have hI:=ih (i+1) (Zb (opB s) (L.drop (k+1)) (k+1) (row.set k l[i],acc)).1 (Zb (opB s) (L.drop (k+1)) (k+1) (row.set k l[i],acc)).2 (by omega) (by omega) hlen
  simp only[fldI] at hI
  refine At.tree (Z3 Z2 (Z0j (decide ((Zb (opB s) (L.drop (k+1)) (k+1) (row.set k l[i],acc)).2.length<=1000)) _ _)) (Z74 s (lisD L) (intC .i64 row) (intC .i64 l) (intC .i64 (Zb (opB s) (L.drop (k+1)) (k+1) (row.set k l[i],acc)).1) (intD acc) (intD acc) (intD (Zb (opB s) (L.drop (k+1)) (k+1) (row.set k l[i],acc)).2) (intD (Zb (opB s) (L.drop (k+1)) (k+1) (row.set k l[i],acc)).2) k l.length i l[i] _) ?_
  simp only[SS,Zy,Z6x]
  refine⟨fun _=>⟨⟨by omega,QV h1⟩,by omega,by omega,by omega,fun hp=>⟨hC.1 hp,by omega,hI hp⟩,fun hp=>⟨hC.2 (by omega),Z8D (by omega)⟩⟩,fun h=>by omega⟩
theorem Zg4 (s:LU) (L:List (List Int)) (hL:L.length<=1073741824) (hl: ∀ l∈L,l.length<=1073741824): ∀ (m k:Nat),L.length-k=m->k<=L.length-> ∀ row acc,row.length=L.length->acc.length<=1000->FilJ s L k row acc:=by
 intro m
 induction m with
 | zero =>
  intro k hm hk row acc hrow hz
  have e:L.drop k=[]:=List.drop_eq_nil_of_le (by omega)
  have hY:=Zdy s L row acc (by omega) hz
  unfold FilJ
  rw[e]
  simp only[Zb]
  refine Zgp (CallL.tree Z4 ZcW (Z3 Z2 (Z0j (decide ((opB s row acc).length<=1000)) _ _)) (ZaB s (lisD L) (intC .i64 row) [] (intC .i64 row) (intD acc) (intD acc) (intD (opB s row acc)) (intD (opB s row acc)) k _) ?_)
  simp only[SS,Qw]
  exact⟨fun _=>⟨fun hp=>⟨hY.1 hp,Zbe hp⟩,fun hp=>⟨hY.2 (by omega),Z8D (by omega)⟩⟩,fun h=>by omega⟩
 | succ m ih =>
  intro k hm hk row acc hrow hz
  have h1:k<L.length:=by omega
  have hA:=Zg5 s L k h1 hL L[k] (hl _ (List.getElem_mem h1)) (fun row acc hr hz=>ih (k+1) (by omega) (by omega) row acc hr hz) _ 0 row acc rfl (Nat.zero_le _) hrow hz
  unfold FilJ
  rw[Za h1]
  simp only[Zb]
  simp only[List.drop_zero] at hA
  refine Zgp (CallL.tree Z4 ZcW (Z3 Z2 (Z0j true _ _)) (ZaB s (lisD L) (intC .i64 row) (intC .i64 L[k]) [] (intD acc) (intD acc) [] [] k true) ?_)
  simp only[SS,Qw,Zy]
  exact⟨fun h=>by omega,fun _=>⟨⟨by omega,Z6v h1⟩,hA⟩⟩
theorem ZeF (s:LU) (L:List (List Int)) (hL:L.length<=1073741824) (hl: ∀ l∈L,l.length<=1073741824) (hz:1000<(Zb (opB s) L 0 (List.replicate L.length 0,[])).2.length) :
  CallL Tryz.prog (.func (.func 139) [] [.ptr 0 0]) [.yld 1] (obOP s (lisD L) [] []) fun r ob=>r= .pan ZF/\ob=[]:=by
 have hF:=Zg4 s L hL hl _ 0 rfl (Nat.zero_le _) (List.replicate L.length 0) [] (by simp) (by simp)
 unfold FilJ CJ at hF
 rw[List.drop_zero] at hF
 have hN:=hF.2 hz
 have e:intC .i64 (List.replicate L.length 0)=List.replicate L.length [.int .i64 0]:=by simp[intC]
 rw[e] at hN
 refine CallL.pdrop (R:=fun r _=>r= .pan ZF) ?_ fun _ _ h=>h
 refine CallL.tree Z4 ZkH (Z3 Z2 (Z0j false _ _)) (ZhV s (lisD L) [] [] false [] [] []) ?_
 simp only[SS,Qw]
 exact⟨⟨by omega,by omega,by omega⟩,fun h=>(Bool.noConfusion h),hN⟩
end Go.Proofs.YtobgkdlghljdlaaGreatDoor
/- Too many: operation,functions,expand. -/
namespace Go.Proofs.YtobgkdlghljdlaaGreatDoor
open Go.Sx
theorem Zhu (s:LU) (es ext:LD):gC (ctr libT) 0 Z4d ZM [] [dS s,dL es ext] [] []=(Jm (frg ZM 0) { tm:=[(1,dL es ext),(2,dP 0 0)],ob:=[(0,oC [dS s])] }:Tr):=by kernel_rfl
theorem Zhx (s:LU) (es ext:LD):gH (ctr libT) 0 false Z4d (frg ZM 0) { tm:=[(1,dL es ext),(2,dP 0 0)],ob:=[(0,oC [dS s])] }=(Jm (frg ZM 1) { tm:=[(1,dL es ext),(2,dP 0 0),(5,dV 1)],ob:=[(0,oC [dS s]),(1,oR true 1 110 [])] }:Tr):=by kernel_rfl
theorem Zhw (s:LU) (es ext:LD):let A:=[(0,oC [dS s]),(1,oR true 1 110 [])];gH (ctr libT) 0 false Z4d (frg ZM 1) { tm:=[(1,dL es ext),(2,dP 0 0),(5,dV 1)],ob:=A }=(Jm (cut ZM 0) { tm:=[(2,dP 0 0),(5,dV 1),(14,dL es ext),(15,dI (↑(List.length es):Int)),(16,dI (0:Int))],ob:=A }:Tr):=by intro A;kernel_rfl
theorem Zai (s:LU) (es ext row xs:LD) (m:Int) (i:Nat) (q:LD):let A:=[dL xs []];let B:=((↑i:Int)+(1:Int));let C:=D.own 1 3 q;let E:=cut ZM 0;let F:=(0,oC [dS s]);let G:=[[dL q []]];gH (ctr (asmP C) Qg (eOne A)) 0 false Z4d E (hdOp s es ext row m (↑i:Int))=(brT (decide ((↑i:Int)<m)) (Ow ((0:Int)<=(↑i:Int)/\es[Int.toNat (↑i:Int)]? = some A) (Ow (FK 87 A C) (Ow (Zc 1 G/\List.length row+1<=1073741824) (I8 B (Jm E { tm:=[(2,dP 0 0),(5,dV 1),(14,dL es ext),(15,dI m),(16,dI B)],ob:=[F,(1,oR true 1 110 (row++G))] }))))) (Jm (frg ZM 2) { tm:=[(2,dP 0 0),(5,dV 1)],ob:=[F,(1,oR true 1 110 row)] }):Tr):=by intro A B C E F G;kernel_rfl
theorem Zhv (s:LU) (row:LD):let A:=(1,oR true 1 110 row);let B:=(0,oC [dS s]);gH (ctr libT) 0 false Z4d (frg ZM 2) { tm:=[(2,dP 0 0),(5,dV 1)],ob:=[B,A] }=(Jm (frg ZM 3) { tm:=[(2,dP 0 0),(5,dV 1),(8,dP 2 0)],ob:=[B,A,(2,oC [D.map 3]),(3,Ob.gen (Gen.mapC [] []) [])] }:Tr):=by intro A B;kernel_rfl
theorem Zht (s:LU) (row:LD) (ks vs:List D):let A:=AOp.load false 1;let B:=Gen.mapC [] [];gH (ctr libT (QT.or Zbc Za0)) 0 false Z4d (frg ZM 3) { tm:=[(2,dP 0 0),(5,dV 1),(8,dP 2 0)],ob:=[(0,oC [dS s]),(1,oR true 1 110 row),(2,oC [D.map 3]),(3,Ob.gen B [])] }=(Ow True (Ow (CallL Tryz.prog (dF 139 [] [dP 0 0]) [D.yld 1] [(0,oC [dL row []]),(1,Ob.gen (Gen.loop LoopState.ready none #[29] (SC.reg [so 9 AOp.mv [xt 29]]) (SC.block 3 (SC.seq (SC.reg [so 31 A [xt 2],so 32 AOp.mv [xt 9],SOp.cd (some 33) none (xc (dF 119 [] [])) [xt 31,xt 32],so 30 AOp.mv [xt 33],so 34 (AOp.extract 0) [xt 30],so 35 (AOp.extract 1) [xt 30],so 10 AOp.mv [xt 34],so 11 AOp.mv [xt 35]]) (SC.seq (SC.reg [so 36 AOp.mv [xt 11]]) (SC.cond (xt 36) (SC.seq (SC.reg [so 37 A [xt 8],so 38 AOp.mv [xt 10],so 39 AOp.mv [xt 10],SOp.st none (SK.k (some IntKind.i64) (xt 38)) (xt 37) (xt 39)]) (SC.spec (Sp.pan [so 40 A [xt 8],so 41 (AOp.ext Ext.lenm) [xt 40],SOp.cd (some 42) none (xc (dF 116 [] [])) [xt 41]]))) SC.skip)))) 56 [28,27,2,5,8]) [dF 139 [] [dP 0 0],dV 2,dP 3 0,dV 2,dP 4 0]),(2,oR true 1 110 row),(3,oC [dS s]),(4,oC [D.map 5]),(5,Ob.gen B [])] fun r0 ob0=>r0=D.pan ZF/\ob0=[]) (Rt (D.pan ZF) [])):Tr):=by intro A B;kernel_rfl
theorem ZhF (s:LU) (es ext:LD):gC (ctr libT) 0 Z52 Z1v [] [dS s,dL es ext] [] []=(Jm (frg Z1v 0) { tm:=[(1,dL es ext),(2,dP 0 0),(4,dP 1 0)],ob:=[(0,oC [dS s]),(1,oC [D.nils])] }:Tr):=by kernel_rfl
theorem ZhI (s:LU) (es ext:LD) (b:Bool):let A:=[(1,dL es ext),(2,dP 0 0),(4,dP 1 0)];let B:=[(0,oC [dS s]),(1,oC [D.nils])];gH (ctr libT (asmA (dB b) id)) 0 false Z52 (frg Z1v 0) { tm:=A,ob:=B }=(Ow (CF 121 [dL es ext,dF 122 [] []] [] fun r0 ob0=>r0=dB b/\ob0=[]) (brT b (Rt D.nils []) (Jm (frg Z1v 1) { tm:=A,ob:=B })):Tr):=by intro A B;kernel_rfl
theorem ZhH (s:LU) (es ext:LD):let A:=[(0,oC [dS s]),(1,oC [D.nils])];let B:=(1,dL es ext);gH (ctr libT) 0 false Z52 (frg Z1v 1) { tm:=[B,(2,dP 0 0),(4,dP 1 0)],ob:=A }=(Jm (frg Z1v 2) { tm:=[B,(2,dP 0 0),(4,dP 1 0),(5,dI (1:Int))],ob:=A }:Tr):=by intro A B;kernel_rfl
theorem ZhG (s:LU) (es ext:LD):let A:=[(0,oC [dS s]),(1,oC [D.nils])];let B:=(5,dI (1:Int));let C:=(1,dL es ext);gH (ctr libT) 0 false Z52 (frg Z1v 2) { tm:=[C,(2,dP 0 0),(4,dP 1 0),B],ob:=A }=(Jm (cut Z1v 0) { tm:=[C,(2,dP 0 0),(4,dP 1 0),B,(11,dL es ext),(12,dI (↑(List.length es):Int)),(13,dI (0:Int))],ob:=A }:Tr):=by intro A B C;kernel_rfl
theorem ZhE (s:LU) (es ext:LD) (p m:Int) (i:Nat) (xs:LD):let A:=(↑(List.length xs):Int);let B:=[(0,oC [dS s]),(1,oC [D.nils])];let C:=(1000:Int);let E:=((↑i:Int)+(1:Int));let F:=cut Z1v 0;let G:=(1,dL es ext);gH (ctr libT limQ (eOne [dL xs []])) 0 false Z52 F (hdFn s es ext p m (↑i:Int))=(brT (decide ((↑i:Int)<m)) (Ow ((0:Int)<=(↑i:Int)/\es[Int.toNat (↑i:Int)]? = some [dL xs []]) (I8 (p*A) (brT (decide (C<p*A)) (Ow (C<p*A) (Rt (D.pan ZF) [])) (Ow (p*A<=C) (I8 E (Jm F { tm:=[G,(2,dP 0 0),(4,dP 1 0),(5,dI (p*A)),(11,dL es ext),(12,dI m),(13,dI E)],ob:=B })))))) (Jm (frg Z1v 3) { tm:=[G,(2,dP 0 0),(4,dP 1 0)],ob:=B }):Tr):=by intro A B C E F G;kernel_rfl
theorem ZgH (k n:Int) (s:LU) (x:List D) (a:LD):gC (ctr libT) 0 Zb8 Z8j [] [dA (tC k n s (x::a))] [] []=(Jm (cut Z8j 0) { tm:=[(1,dP 0 0),(3,dV 1),(14,dL (x::a) []),(15,dI (↑(List.length (x::a)):Int)),(16,dI (0:Int))],ob:=[(0,oC [dU k,dI n,dS s,dL (x::a) []]),(1,oR true 1 22 [])] }:Tr):=by kernel_rfl
def xpQ (b:Bool) (r:D):Nat->QT:=fun t=>if t=22 then asmJ b r id else Za0
theorem Z7V (l:List (Nat × D)) (b:Bool) (r:D) (E:Nat->Int->List D):(⟨(sCtr l).F,xpQ b r,E⟩:Ctr).OK Tryz.prog:=by
 refine⟨(Z8m l).F,fun t=> ?_⟩
 show QT.OK (xpQ b r t)
 unfold xpQ
 split
 ·exact Z0j _ _ _
 ·exact Z4H
theorem Z5H (k n:Int) (s:LU) (a row:LD) (m:Int) (i:Nat) (kx nx:Int) (sx:LU) (ax es us vs is js:LD) (b:Bool):let A:=Rt (D.pan ZF) [];let B:=tC kx nx sx ax;let G:=((↑i:Int)+(1:Int));let H:=[dS s,dL row []];let I:=cut Z8j 0;let J:=[[dL es []]];goT Tryz.prog { F:=Ctr.F (sCtr [(33,dL is []),(37,dL js [])]),C:=xpQ b (dL es []),E:=xpE kx nx sx ax us vs } 0 (finF false 0 Zb8) 2000 I (hdEx k n s a row m (↑i:Int))=(brT (decide ((↑i:Int)<m)) (Ow ((0:Int)<=(↑i:Int)/\a[Int.toNat (↑i:Int)]? = some B) (brT b (Ow (CF 48 [dA B] [] fun r0 ob0=>r0=dL es []/\ob0=[]) (Ow (Zc 1 J/\List.length row+1<=1073741824) (I8 G (Jm I { tm:=[(1,dP 0 0),(3,dV 1),(14,dL a []),(15,dI m),(16,dI G)],ob:=[(0,oC (tC k n s a)),(1,oR true 1 22 (row++J))] })))) (Ow (CF 48 [dA B] [] fun r0 ob0=>r0=D.pan ZF/\ob0=[]) A))) (brT (decide (k=(6:Int))) (Ow ((0:Int)<=(0:Int)/\row[0]? = some [dL us []]) (Ow (FK 87 [dL us []] (dL is [])) (Ow ((0:Int)<=(1:Int)/\row[1]? = some [dL vs []]) (Ow (FK 87 [dL vs []] (dL js [])) (Ow (CF 86 [dL is [],dL js []] [] fun r0 ob0=>r0=D.pan ZF/\ob0=[]) A))))) (brT (decide (k=(5:Int))) (Ow (CF 88 H [] fun r0 ob0=>r0=D.pan ZF/\ob0=[]) A) (Ow (CF 89 H [] fun r0 ob0=>r0=D.pan ZF/\ob0=[]) A))):Tr):=by intro A B G H I J;kernel_rfl
abbrev RP:D->Obs->Prop:=fun r _=>r= .pan ZF
theorem ZjZ (s:LU) (L:List (List Tm)) (ext:LD) (hL:L.length<=1000) (hl: ∀ l∈L,l.length<=1000) (hz:1000<(opF s (Zx (L.map Zd))).length): ∀ (m i:Nat),L.length-i=m->i<=L.length →
  At Tryz.prog 0 (cut ZM 0) (hdOp s (Z8 L) ext (lisD ((L.take i).map Zd)) L.length i) (FinQ false 0 Z4d RP):=by
 intro m
 induction m with
 | zero =>
  intro i hm hi
  refine At.tree (Z3 (Zl _) Z0) (Zai s (Z8 L) ext (lisD ((L.take i).map Zd)) [] L.length i []) ?_
  have e:L.take i=L:=List.take_of_length_le (by omega)
  rw[e]
  simp only[SS]
  refine⟨fun h=>by omega,fun _=> ?_⟩
  refine At.tree (Z3 Z2 Z0) (Zhv s (lisD (L.map Zd))) ?_
  rw[Z9]
  refine At.tree (Z3 Z2 (QT.or_ok Z68 Z4H)) (Zht s (lisD (L.map Zd)) [] []) ?_
  have hI: ∀ l∈L.map Zd,l.length<=1073741824:=by
   intro l h
   obtain⟨l',h',rfl⟩:=List.mem_map.1 h
   have:=hl l' h'
   have:=List.length_filterMap_le Tm.int? l'
   unfold Zd
   omega
  have hacc:(Zb (opB s) (L.map Zd) 0 (List.replicate (L.map Zd).length 0,[])).2=opF s (Zx (L.map Zd)):=by
   rw[(Z0x (opB s) _ 0 _ [] (by simp)).1]
   simp[opF]
  have hR:=ZeF s (L.map Zd) (by simp; omega) hI (by rw[hacc]; exact hz)
  rw[Zh,Zh,Ze]
  exact⟨trivial,hR,rfl⟩
 | succ m ih =>
  intro i hm hi
  have h1:i<L.length:=by omega
  have e:lisD ((L.take i).map Zd)++[[.slice (intC .i64 (Zd L[i])) []]]=lisD ((L.take (i+1)).map Zd):=by
   rw[List.take_add_one,List.getElem?_eq_getElem h1]
   simp only[lisD,List.map_append,Option.toList_some,List.map_cons,List.map_nil]
  have hli:=hl _ (List.getElem_mem h1)
  refine At.tree (Z3 (Zl _) Z0) (Zai s (Z8 L) ext (lisD ((L.take i).map Zd)) (Tm.cellsL L[i]) L.length i (intC .i64 (Zd L[i]))) ?_
  simp only[SS,Qw,List.length_map,List.length_take]
  rw[e]
  exact⟨fun _=>⟨⟨by omega,Ql h1⟩,Z9a [] L[i] (by omega),⟨by simp[Zc],by omega⟩,by omega,ih (i+1) (by omega) (by omega)⟩,fun h=>by omega⟩
theorem ZjY (s:LU) (L:List (List Tm)) (hL:L.length<=1000) (hl: ∀ l∈L,l.length<=1000) (h:opX s L=none):CF 88 [.str s,.slice (Z8 L) []] [] fun r ob=>r= .pan ZF/\ob=[]:=by
 have hz:1000<(opF s (Zx (L.map Zd))).length:=by
  unfold opX at h
  split at h
  ·cases h
  ·omega
 refine CallL.pdrop (R:=RP) ?_ fun _ _ h=>h
 refine CallL.tree Z4 ZnS (Z3 Z2 Z0) (Zhu s (Z8 L) []) ?_
 rw[Z9]
 refine At.tree (Z3 Z2 Z0) (Zhx s (Z8 L) []) ?_
 rw[Z9]
 refine At.tree (Z3 Z2 Z0) (Zhw s (Z8 L) []) ?_
 rw[Z9,ZE]
 exact ZjZ s L [] hL hl hz _ 0 rfl (Nat.zero_le _)
theorem Zll (s:LU) (L:List (List Tm)) (hL:L.length<=1000) (hl: ∀ l∈L,l≠[]/\l.length<=1000) (hz:1000<(Zx L).length): ∀ (m i:Nat),L.length-i=m->i<=L.length->prdL L i<=1000 →
  At Tryz.prog 0 (cut Z1v 0) (hdFn s (Z8 L) [] (prdL L i) L.length i) (FinQ false 0 Z52 RP):=by
 intro m
 induction m with
 | zero =>
  intro i hm hi hp
  have:prdL L i=(Zx L).length:=by
   unfold prdL
   rw[QK,List.take_of_length_le (show L.length<=i by omega)]
  omega
 | succ m ih =>
  intro i hm hi hp
  have h1:i<L.length:=by omega
  have e:((prdL L (i+1):Nat):Int)=(prdL L i:Int)*(L[i].length:Int):=by rw[Z20 h1]; exact Int.natCast_mul _ _
  have hb:prdL L (i+1)<=1000*1000:=by
   rw[Z20 h1]
   exact Nat.mul_le_mul hp (hl _ (List.getElem_mem h1)).2
  refine At.tree (Z3 Z2 Z5i) (ZhE s (Z8 L) [] (prdL L i) L.length i (Tm.cellsL L[i])) ?_
  rw[Z1,<- e]
  simp only[SS]
  exact⟨fun _=>⟨⟨by omega,Ql h1⟩,by omega,fun h=>by omega,fun h=>⟨by omega,by omega,ih (i+1) (by omega) (by omega) (by omega)⟩⟩,fun h=>by omega⟩
theorem Zlk (s:LU) (L:List (List Tm)) (hL:L.length<=1000) (hl: ∀ l∈L,l.length<=1000) (h:fnX s L=none):CF 89 [.str s,.slice (Z8 L) []] [] fun r ob=>r= .pan ZF/\ob=[]:=by
 unfold fnX at h
 split at h
 ·cases h
 ·rename_i he
  split at h
  ·cases h
  ·rename_i hz
   have he:=Bool.eq_false_iff.2 he
   have hne: ∀ l∈L,l≠[]/\l.length<=1000:=fun l hx=>⟨fun e=>by
    have:=List.any_eq_false.1 he l hx
    rw[e] at this
    exact this rfl,hl l hx⟩
   refine CallL.pdrop (R:=RP) ?_ fun _ _ h=>h
   refine CallL.tree Z4 ZnR (Z3 Z2 Z0) (ZhF s (Z8 L) []) ?_
   rw[Z9]
   refine At.tree (Z3 Z2 (Zw _ _)) (ZhI s (Z8 L) [] (L.any List.isEmpty)) ?_
   rw[Zh,Qt,Ze,Z9]
   refine⟨Z9E [] L hL,fun h=>absurd h (by rw[he]; decide),fun _=> ?_⟩
   refine At.tree (Z3 Z2 Z0) (ZhH s (Z8 L) []) ?_
   rw[Z9]
   refine At.tree (Z3 Z2 Z0) (ZhG s (Z8 L) []) ?_
   rw[Z9,ZE]
   exact Zll s L hL hne (by omega) _ 0 rfl (Nat.zero_le _) (by simp[prdL])
theorem Z7W: ∀ {a b:List Tm} {p q:List (List Tm)},Tm.xpL a=some p->Tm.xpL b=some q->Tm.xpL (a++b)=some (p++q)
 | [],_,_,_,h,h'=>by cases h; exact h'
 | x::r,b,p,q,h,h'=>by
  rw[Tm.xpL] at h
  unfold ZbU at h
  split at h
  ·rename_i u v h1 h2
   cases h
   rw[List.cons_append,Tm.xpL,Z7W h2 h',h1]
   rfl
  ·cases h
def ExpN (x:Tm):Prop:=CF 48 [.agg x.cells] [] fun r ob=>r= .pan ZF/\ob=[]
theorem ZjS:ZA Tryz.prog 48=true:=by kernel_rfl
theorem Zi0 (k:Nat) (n:Int) (s:LU) (l:List Tm) (hl:l.length<=1000) (hs0:(Tm.mk k n s l).all Tm.shape=true) (hg0:(Tm.mk k n s l).all Tm.gr=true) (hw:Tm.fewL 1000 l) (HN: ∀ x∈l,x.xp=none->ExpN x): ∀ (m i:Nat) (ps:List (List Tm)),l.length-i=m->i<=l.length →
  Tm.xpL (l.take i)=some ps->(Tm.xpL (l.drop i)=none\/ ∃ qs,Tm.xpL (l.drop i)=some qs/\xpK k s (some (ps++qs))=none) →
  At Tryz.prog 0 (cut Z8j 0) (hdEx k n s (Tm.cellsL l) (Z8 ps) l.length i) (FinQ false 0 Zb8 RP):=by
 have e6:((k:Int)=6)=(k=6):=propext (by omega)
 have e5:((k:Int)=5)=(k=5):=propext (by omega)
 have hs:=Zt.1 hs0
 have hg:=Zt.1 hg0
 intro m
 induction m with
 | zero =>
  intro i ps hm hi hps hn
  rw[List.take_of_length_le (show l.length<=i by omega)] at hps
  rw[List.drop_eq_nil_of_le (by omega)] at hn
  have hx:xpK k s (some ps)=none:=by
   rcases hn with hn | ⟨qs,h1,h2⟩
   ·cases hn
   ·cases h1; rwa [List.append_nil] at h2
  have hlen:=Z0F hps
  have hp: ∀ p∈ps,p.length<=1000:=fun p hp=>(Z0E hps hp).elim fun x hx=>Z5Q hx.2
  have hfit: ∀ i, ∀ c∈Zd (ps.getD i []),Zj c=true:=fun i c hc=>by
   obtain⟨x,hx,hxi⟩:=Z2c.1 hc
   rw[List.getD_eq_getElem?_getD] at hx
   cases hq:ps[i]? with
   | none=>rw[hq] at hx; cases hx
   | some p =>
    rw[hq] at hx
    obtain⟨y,hy,hye⟩:=Z0E hps (List.mem_of_getElem? hq)
    exact Z0X (Z0m y p x (hs.2 y hy) (hg.2 y hy) hye hx).2.1 hxi
  have gl: ∀ i,(ps.getD i []).length<=1000:=fun i=>by
   rw[List.getD_eq_getElem?_getD]
   cases hq:ps[i]? with
   | none=>simp
   | some p=>exact hp p (List.mem_of_getElem? hq)
  have hil: ∀ i,(Zd (ps.getD i [])).length<=1000:=fun i=>Nat.le_trans (Z6w _) (gl i)
  refine At.tree (Z7V _ _ _ _) (Z5H k n s (Tm.cellsL l) (Z8 ps) l.length i 0 0 [] [] [] (Tm.cellsL (ps.getD 0 [])) (Tm.cellsL (ps.getD 1 [])) (intC .i64 (Zd (ps.getD 0 []))) (intC .i64 (Zd (ps.getD 1 []))) true) ?_
  simp only[xpK] at hx
  simp only[SS,e6,e5]
  refine⟨fun h=>by omega,fun _=>⟨fun h6=> ?_,fun h6=>⟨fun h5=> ?_,fun h5=> ?_⟩⟩⟩
  ·subst h6
   rw[if_pos rfl] at hx
   have hv:ivl (Zd (ps.getD 0 [])) (Zd (ps.getD 1 []))=none:=by
    cases hv:ivl (Zd (ps.getD 0 [])) (Zd (ps.getD 1 [])) with
    | none=>rfl
    | some q=>rw[hv] at hx; cases hx
   have h2:=Z47 hs.1
   exact⟨Z0s (by omega),Z3D _ (gl 0),⟨by decide,Z0s (by omega)⟩,Z3D _ (gl 1),Zks _ _ (hil 0) (hil 1) (hfit 0) (hfit 1) hv⟩
  ·subst h5
   rw[if_neg (by decide),if_pos rfl] at hx
   exact ZjY s ps (by omega) hp hx
  ·rw[if_neg h6,if_neg h5] at hx
   exact Zlk s ps (by omega) hp hx
 | succ m ih =>
  intro i ps hm hi hps hn
  have h1:i<l.length:=by omega
  have hx:=Zg h1
  have hm0:l[i]∈l:=List.getElem_mem h1
  have hlen:=Z0F hps
  rw[List.length_take] at hlen
  rw[Za h1,Tm.xpL] at hn
  cases hq:l[i].xp with
  | none =>
   have hC:=HN _ hm0 hq
   unfold ExpN at hC
   generalize l[i]=x at hx hC
   obtain⟨kx,nx,sx,ax⟩:=x
   refine At.tree (Z7V _ _ _ _) (Z5H k n s (Tm.cellsL l) (Z8 ps) l.length i kx nx sx (Tm.cellsL ax) [] [] [] [] [] false) ?_
   simp only[SS]
   exact⟨fun _=>⟨⟨by omega,hx⟩,fun h=>(Bool.noConfusion h),hC⟩,fun h=>by omega⟩
  | some p =>
   have hC:=FnOK.callS ZjS (Z5x l[i] p (ZL.1 hw _ hm0) (hs.2 _ hm0) (hg.2 _ hm0) hq)
   have ht:Tm.xpL (l.take (i+1))=some (ps++[p]):=by
    rw[List.take_add_one,List.getElem?_eq_getElem h1,Option.toList_some]
    exact Z7W hps (by rw[Tm.xpL,hq]; rfl)
   have hI:=ih (i+1) (ps++[p]) (by omega) (by omega) ht (by
    rw[hq] at hn
    cases hr:Tm.xpL (l.drop (i+1)) with
    | none=>exact .inl rfl
    | some qs =>
     rw[hr] at hn
     rcases hn with hn | ⟨q2,h2,h3⟩
     ·cases hn
     ·cases h2
      exact .inr ⟨qs,rfl,by rw[List.append_assoc]; exact h3⟩)
   have e:Z8 (ps++[p])=Z8 ps++[[.slice (Tm.cellsL p) []]]:=by simp[Z8]
   rw[e] at hI
   generalize l[i]=x at hx hC
   obtain⟨kx,nx,sx,ax⟩:=x
   refine At.tree (Z7V _ _ _ _) (Z5H k n s (Tm.cellsL l) (Z8 ps) l.length i kx nx sx (Tm.cellsL ax) (Tm.cellsL p) [] [] [] [] true) ?_
   simp only[SS,ZE]
   exact⟨fun _=>⟨⟨by omega,hx⟩,⟨hC,⟨by simp[Zc],by omega⟩,by omega,hI⟩,fun h=>(Bool.noConfusion h)⟩,fun h=>by omega⟩
theorem Z9n: ∀ (x:Tm),x.few 1000->x.all Tm.shape=true->x.all Tm.gr=true->x.xp=none->ExpN x
 | .mk k n s l,hx,hs0,hg0,h=>by
  have hs:=Zt.1 hs0
  have hg:=Zt.1 hg0
  simp only[Tm.few] at hx
  obtain⟨hl,hw⟩:=hx
  have HN: ∀ x∈l,x.xp=none->ExpN x:=fun x hm h=>Z9n x (ZL.1 hw _ hm) (hs.2 _ hm) (hg.2 _ hm) h
  rw[Tm.xp] at h
  split at h
  ·cases h
  ·rename_i he
   have he:l≠[]:=fun e=>he (by rw[e]; rfl)
   have hA:=Zi0 k n s l hl hs0 hg0 hw HN _ 0 [] rfl (Nat.zero_le _) rfl (by
    rw[List.drop_zero]
    cases hq:Tm.xpL l with
    | none=>exact .inl rfl
    | some qs=>rw[hq] at h; exact .inr ⟨qs,rfl,h⟩)
   clear HN hs hg hs0 hg0 h hw
   unfold ExpN
   refine CallL.pdrop (R:=RP) ?_ fun _ _ h=>h
   cases l with
   | nil=>exact absurd rfl he
   | cons x r =>
    refine CallL.tree Z4 ZnU (Z3 Z2 Z0) (ZgH k n s x.cells (Tm.cellsL r)) ?_
    rw[Z9]
    have e:(x.cells::Tm.cellsL r).length=(x::r).length:=by simp[Z1]
    rw[e]
    exact hA
termination_by x=>SizeOf.sizeOf x
decreasing_by
 have:=List.sizeOf_lt_of_mem hm
 simp only[Tm.mk.sizeOf_spec]
 omega
end Go.Proofs.YtobgkdlghljdlaaGreatDoor
