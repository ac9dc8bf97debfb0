/- Own work: a layer over the kit: plain data,a walk over it,its soundness. -/
import Derived.Test.YtobgkdlghljdlaaGreatDoorLibT
import Derived.Test.YtobgkdlghljdlaaGreatDoorSx8
set_option linter.unusedSectionVars false
set_option linter.unusedVariables false
set_option linter.unusedSimpArgs false
set_option linter.deprecated false
set_option maxRecDepth 100000
/- arith.Calc. -/
namespace Go.Proofs.YtobgkdlghljdlaaGreatDoor
open Go.Sx
theorem Zhh (n:Int):gP (ctr libT) ZeR Zeb [dI n]=(brT (decide ((-2147483647:Int)<=n)) (Rt (dB (decide (n<=(2147483647:Int)))) []) (Rt (dB false) []):Tr):=by kernel_rfl
theorem Zlq (n:Int):FK 143 [.int .i64 n] (.bool (Zj n)):=by
 refine FnOK.tree Z4 ZkT (Z3 Z2 Z0) (Zhh n) ?_
 simp only[SS,Zj]
 exact⟨fun h=>by simp[h],fun h=>by simp[h]⟩
theorem Zcg (s:LU):gP (ctr libT) ZeQ Zea [dS s]=(brT (decide (s=[(45:UInt8)])) (Rt (dI (1:Int)) []) (Rt (dI (0:Int)) []):Tr):=by kernel_rfl
theorem Zij (s:LU):FK 144 [.str s] (.int .i64 (if s=[45] then 1 else 0)):=by
 refine FnOK.tree Z4 ZkS (Z3 Z2 Z0) (Zcg s) ?_
 simp only[SS]
 exact⟨fun h=>by rw[if_pos h],fun h=>by rw[if_neg h]⟩
abbrev abO (a b:Int):Obs:=[(0,.cells [.int .i64 a]),(1,.cells [.int .i64 b])]
theorem Zmt (a b:Int):let A:=[(0,oC [dI a]),(1,oC [dI b])];gC (ctr libT) 2 ZeN Ze7 [] [] [dP 0 0,dP 1 0] A=(I8 (a+b) (Rt (dI (a+b)) A):Tr):=by intro A;kernel_rfl
theorem Zms (a b:Int):let A:=[(0,oC [dI a]),(1,oC [dI b])];gC (ctr libT) 2 ZeM Ze6 [] [] [dP 0 0,dP 1 0] A=(I8 (a-b) (Rt (dI (a-b)) A):Tr):=by intro A;kernel_rfl
theorem Zmr (a b:Int):let A:=[(0,oC [dI a]),(1,oC [dI b])];gC (ctr libT) 2 ZeL Ze5 [] [] [dP 0 0,dP 1 0] A=(I8 (a*b) (Rt (dI (a*b)) A):Tr):=by intro A;kernel_rfl
theorem Zmq (a b:Int):let A:=[(0,oC [dI a]),(1,oC [dI b])];let B:=Int.tdiv a b;gC (ctr libT) 2 ZeK Ze4 [] [] [dP 0 0,dP 1 0] A=(Ow (b≠(0:Int)) (I8 B (Rt (dI B) A)):Tr):=by intro A B;kernel_rfl
theorem Zmp (a b:Int):let A:=[(0,oC [dI a]),(1,oC [dI b])];gC (ctr libT) 2 ZeJ Ze3 [] [] [dP 0 0,dP 1 0] A=(Ow (b≠(0:Int)) (Rt (dI (Int.tmod a b)) A):Tr):=by intro A;kernel_rfl
def ClC (f:FuncId) (a b r:Int):Prop:=CallL Tryz.prog (.func (.func f) [] [.ptr 0 0,.ptr 1 0]) [] (abO a b) fun r0 ob0=>r0= .int .i64 r/\ob0=abO a b
theorem Zm0 (a b:Int) (ha:Zj a=true) (hb:Zj b=true):ClC 180 a b (a+b):=by
 rw[Zo] at ha hb
 refine CallL.tree Z4 ZkM (Z3 Z2 Z0) (Zmt a b) ?_
 simp only[SS]
 omega
theorem ZlZ (a b:Int) (ha:Zj a=true) (hb:Zj b=true):ClC 181 a b (a-b):=by
 rw[Zo] at ha hb
 refine CallL.tree Z4 ZkL (Z3 Z2 Z0) (Zms a b) ?_
 simp only[SS]
 omega
theorem ZlY (a b:Int) (ha:Zj a=true) (hb:Zj b=true):ClC 182 a b (a*b):=by
 have:=Zfx ha hb
 refine CallL.tree Z4 ZkK (Z3 Z2 Z0) (Zmr a b) ?_
 simp only[SS]
 omega
theorem ZoK (a b:Int) (ha:Zj a=true) (hb:b≠0):ClC 183 a b (a.tdiv b):=by
 have:=Zo.1 (ZaU (b:=b) ha)
 refine CallL.tree Z4 ZkJ (Z3 Z2 Z0) (Zmq a b) ?_
 simp only[SS]
 exact⟨hb,by omega⟩
theorem ZoJ (a b:Int) (ha:Zj a=true) (hb:b≠0):ClC 184 a b (a.tmod b):=by
 refine CallL.tree Z4 ZkI (Z3 Z2 Z0) (Zmp a b) ?_
 simp only[SS]
 exact hb
def clQ:QT:=fun d xs ob=>match d,xs,ob with
 | .func (.func f) [] [.ptr 0 0,.ptr 1 0],[],[(0,.cells [.int .i64 a]),(1,.cells [.int .i64 b])] =>
  if f=180 then some (.ok (ClC 180 a b (a+b)) (.int .i64 (a+b)) (abO a b))
  else if f=181 then some (.ok (ClC 181 a b (a-b)) (.int .i64 (a-b)) (abO a b))
  else if f=182 then some (.ok (ClC 182 a b (a*b)) (.int .i64 (a*b)) (abO a b))
  else if f=183 then some (.ok (ClC 183 a b (a.tdiv b)) (.int .i64 (a.tdiv b)) (abO a b))
  else if f=184 then some (.ok (ClC 184 a b (a.tmod b)) (.int .i64 (a.tmod b)) (abO a b))
  else none
 | _,_,_=>none
theorem ZlS:clQ.OK:=by
 intro d xs ob rt h
 unfold clQ at h
 split at h
 ·split at h
  ·rename_i hf; subst hf; cases h; exact fun hp=>hp
  split at h
  ·rename_i hf; subst hf; cases h; exact fun hp=>hp
  split at h
  ·rename_i hf; subst hf; cases h; exact fun hp=>hp
  split at h
  ·rename_i hf; subst hf; cases h; exact fun hp=>hp
  split at h
  ·rename_i hf; subst hf; cases h; exact fun hp=>hp
  ·cases h
 ·cases h
def fitP:PT:=fun f xs=>match xs with
 | [.int .i64 n]=>if f=143 then some (.ok True (.bool (Zj n)) []) else none
 | [.str s]=>if f=144 then some (.ok True (.int .i64 (if s=[45] then 1 else 0)) []) else none
 | _=>none
theorem Z5u:fitP.OK:=by
 intro f xs rt h
 unfold fitP at h
 split at h
 ·split at h
  ·rename_i hf; subst hf; cases h; exact fun _=>Zlq _
  ·cases h
 ·split at h
  ·rename_i hf; subst hf; cases h; exact fun _=>Zij _
  ·cases h
 ·cases h
theorem Zci (s:LU) (a b:Int):let A:=(Rt (D.tuple [dI (0:Int),dB false]) []);let B:=Int.tdiv a b;let C:=Int.tmod a b;let E:=[(47:UInt8)];let F:=[(92:UInt8)];let G:=Rt (D.tuple [dI (a+b),dB true]) [];let H:=Rt (D.tuple [dI (a-b),dB true]) [];let I:=Rt (D.tuple [dI (a*b),dB true]) [];let J:=Rt (D.tuple [dI B,dB true]) [];let K:=Rt (D.tuple [dI C,dB true]) [];let L:=ClC 180 a b (a+b);let M:=ClC 181 a b (a-b);let N:=ClC 182 a b (a*b);let O:=ClC 183 a b B;let P:=ClC 184 a b C;gP (ctr fitP clQ) ZeP Ze9 [dS s,dI a,dI b]=(brT (decide (s=[(43:UInt8)])) (brT (decide (b=(0:Int))) (brT (decide (s=E)) A (brT (decide (s=F)) A (Ow L (Ow True (brT (!Zj (a+b)) A G))))) (Ow L (Ow True (brT (!Zj (a+b)) A G)))) (brT (decide (s=[(45:UInt8)])) (brT (decide (b=(0:Int))) (brT (decide (s=E)) A (brT (decide (s=F)) A (Ow M (Ow True (brT (!Zj (a-b)) A H))))) (Ow M (Ow True (brT (!Zj (a-b)) A H)))) (brT (decide (s=[(42:UInt8)])) (brT (decide (b=(0:Int))) (brT (decide (s=E)) A (brT (decide (s=F)) A (Ow N (Ow True (brT (!Zj (a*b)) A I))))) (Ow N (Ow True (brT (!Zj (a*b)) A I)))) (brT (decide (s=E)) (brT (decide (b=(0:Int))) (brT (decide (s=E)) A (brT (decide (s=F)) A (Ow O (Ow True (brT (!Zj B) A J))))) (Ow O (Ow True (brT (!Zj B) A J)))) (brT (decide (s=F)) (brT (decide (b=(0:Int))) (brT (decide (s=E)) A (brT (decide (s=F)) A (Ow P (Ow True (brT (!Zj C) A K))))) (Ow P (Ow True (brT (!Zj C) A K)))) A)))):Tr):=by intro A B C E F G H I J K L M N O P;kernel_rfl
theorem Z4l (v:Int):(Zj v=false->D.tuple [.int .i64 0,.bool false]=resT (fitO (some v)))/\(Zj v=true->D.tuple [.int .i64 v,.bool true]=resT (fitO (some v))) :=
 ⟨fun h=>by simp[fitO,resT,h],fun h=>by simp[fitO,resT,h]⟩
theorem Zgs (s:LU) (a b:Int) (ha:Zj a=true) (hb:Zj b=true):FK 145 [.str s,.int .i64 a,.int .i64 b] (resT (fitO (Z2s s a b))):=by
 refine FnOK.tree Z4 ZkR (Z3 Z5u ZlS) (Zci s a b) ?_
 simp only[SS]
 refine⟨fun h=> ?_,fun h=>⟨fun h2=> ?_,fun h2=>⟨fun h3=> ?_,fun h3=>⟨fun h4=> ?_,fun h4=>⟨fun h5=> ?_,fun h5=> ?_⟩⟩⟩⟩⟩
 ·subst h
  have e:Z2s [43] a b=some (a+b):=rfl
  rw[e]
  exact⟨fun _=>⟨fun h=>absurd h (by decide),fun _=>⟨fun h=>absurd h (by decide),fun _=>⟨Zm0 a b ha hb,Z4l _⟩⟩⟩,fun _=>⟨Zm0 a b ha hb,Z4l _⟩⟩
 ·subst h2
  have e:Z2s [45] a b=some (a-b):=rfl
  rw[e]
  exact⟨fun _=>⟨fun h=>absurd h (by decide),fun _=>⟨fun h=>absurd h (by decide),fun _=>⟨ZlZ a b ha hb,Z4l _⟩⟩⟩,fun _=>⟨ZlZ a b ha hb,Z4l _⟩⟩
 ·subst h3
  have e:Z2s [42] a b=some (a*b):=rfl
  rw[e]
  exact⟨fun _=>⟨fun h=>absurd h (by decide),fun _=>⟨fun h=>absurd h (by decide),fun _=>⟨ZlY a b ha hb,Z4l _⟩⟩⟩,fun _=>⟨ZlY a b ha hb,Z4l _⟩⟩
 ·subst h4
  refine⟨fun h=> ?_,fun h=> ?_⟩
  ·subst h
   exact⟨fun _=>rfl,fun h=>absurd rfl h⟩
  ·have e:Z2s [47] a b=some (a.tdiv b):=by simp[Z2s,h]
   rw[e]
   exact⟨ZoK a b ha h,Z4l _⟩
 ·subst h5
  refine⟨fun h=> ?_,fun h=> ?_⟩
  ·subst h
   exact⟨fun h=>absurd h (by decide),fun _=>⟨fun _=>rfl,fun h=>absurd rfl h⟩⟩
  ·have e:Z2s [92] a b=some (a.tmod b):=by simp[Z2s,h]
   rw[e]
   exact⟨ZoJ a b ha h,Z4l _⟩
 ·simp[Z2s,h,h2,h3,h4,h5,fitO,resT]
theorem Zhr (n:Int):gC (ctr fitP) 0 ZeS Zec [] [dI n] [] []=(Ow True (Rt (D.bool !Zj n) []):Tr):=by kernel_rfl
theorem Zm2 (n:Int):CF 142 [.int .i64 n] [] fun r ob=>r= .bool (!Zj n)/\ob=[]:=by
 refine CallL.tree Z4 ZkU (Z3 Z5u Z0) (Zhr n) ?_
 simp[Ze,Zh]
def asmP (r:D):PT:=fun f xs=>some (.ok (FK f xs r) r [])
theorem Zl (r:D):(asmP r).OK:=by intro f xs rt h; cases h; exact fun hp=>hp
def bigQ:QT:=fun d xs ob=>match d,xs,ob with
 | .func (.func f) [] [],[.int .i64 n],[]=>if f=142 then some (.ok True (.bool (!Zj n)) []) else none
 | _,_,_=>none
theorem Z9W:bigQ.OK:=by
 intro d xs ob rt h
 unfold bigQ at h
 split at h
 ·split at h
  ·rename_i hf; subst hf; cases h; exact fun _=>Zm2 _
  ·cases h
 ·cases h
def bigI:List Int->Int->Int
 | [],_=> -1
 | a::r,i=>if Zj a=true then bigI r (i+1) else i
theorem Z6O: ∀ (l:List Int) (i:Int),0<=i->(0<=bigI l i ↔ l.all Zj=false)
 | [],i,_=>by simp[bigI]
 | a::r,i,h=>by
  have ih:=Z6O r (i+1) (by omega)
  by_cases hf:Zj a=true
  ·simp only[bigI,hf,if_true,List.all_cons,Bool.true_and]; exact ih
  ·simp[bigI,hf,h]
theorem Zgx (l:List Int) (i:Int) (h:0<=i):(decide (0<=bigI l i))= !(l.all Zj):=by
 have:=Z6O l i h
 cases hq:l.all Zj with
 | true=>simp[this,hq]
 | false=>simp[this,hq]
def eOne (c:List D):Nat->Int->List D:=fun _ _=>c
theorem Za {α:Type} {l:List α} {i:Nat} (h:i<l.length):l.drop i=l[i]::l.drop (i+1):=List.drop_eq_getElem_cons h
theorem QV {k:IntKind} {l:List Int} {i:Nat} (h:i<l.length):(intC k l)[i]? = some [.int k l[i]]:=by simp[intC,h]
theorem Zy (k:IntKind) (l:List Int):(intC k l).length=l.length:=by simp[intC]
theorem Zh8 (es:LD):let A:=[(0,oR false 1 3 es)];gC (ctr libT) 1 Z8s Z7e [] [dV 0,dF 142 [] []] [] A=(Jm (cut Z7e 0) { tm:=[(0,dV 0),(1,dF 142 [] []),(7,dI (↑(List.length es):Int)),(8,dI (0:Int))],ob:=A }:Tr):=by intro A;kernel_rfl
def Zkw (es:LD) (n i:Int):St:=⟨[(0,.vec 0),(1,.func (.func 142) [] []),(7,.int .i64 n),(8,.int .i64 i)],[(0,.arr false 1 3 es)]⟩
theorem Z6W (es:LD) (n:Int) (i:Nat) (c:Int):let A:=[(0,oR false 1 3 es)];let B:=((↑i:Int)+(1:Int));let C:=cut Z7e 0;gH (ctr libT bigQ (eOne [dI c])) 1 false Z8s C (Zkw es n (↑i:Int))=(brT (decide ((↑i:Int)<n)) (Ow ((0:Int)<=(↑i:Int)/\(↑i:Int)<(↑(List.length es):Int)) (Ow (es[Int.toNat (↑i:Int)]? = some [dI c]) (Ow True (brT (!Zj c) (Rt (dI (↑i:Int)) A) (I8 B (Jm C { tm:=[(0,dV 0),(1,dF 142 [] []),(7,dI n),(8,dI B)],ob:=A })))))) (Rt (dI (-1:Int)) A):Tr):=by intro A B C;kernel_rfl
theorem Zkm (l:List Int) (hl:l.length<=4611686018427387904): ∀ (m i:Nat),l.length-i=m->i<=l.length →
  At Tryz.prog 1 (cut Z7e 0) (Zkw (intC .i64 l) l.length i) (FinQ false 1 Z8s fun r ob=>r= .int .i64 (bigI (l.drop i) i)/\ob=[(0,.arr false 1 3 (intC .i64 l))]):=by
 intro m
 induction m with
 | zero =>
  intro i hm hi
  refine At.tree (Z3 Z2 Z9W) (Z6W (intC .i64 l) l.length i 0) ?_
  rw[List.drop_eq_nil_of_le (by omega)]
  simp only[SS]
  exact⟨fun h=>by omega,fun _=>rfl⟩
 | succ m ih =>
  intro i hm hi
  have h1:i<l.length:=by omega
  refine At.tree (Z3 Z2 Z9W) (Z6W (intC .i64 l) l.length i l[i]) ?_
  rw[Za h1]
  simp only[SS,bigI,Zy]
  refine⟨fun _=>⟨by omega,QV h1,fun h=>by simp[h],fun h=>⟨by omega, ?_⟩⟩,fun h=>by omega⟩
  rw[if_pos h]; exact ih (i+1) (by omega) (by omega)
theorem Zkl (l:List Int) (hl:l.length<=4611686018427387904):CF 179 [.vec 0,.func (.func 142) [] []] [(0,.arr false 1 3 (intC .i64 l))] fun r ob=>r= .int .i64 (bigI l 0)/\ob=[(0,.arr false 1 3 (intC .i64 l))]:=by
 refine CallL.tree Z4 ZkN (Z3 Z2 Z0) (Zh8 _) ?_
 simp only[SS,Zy]
 exact Zkm l hl _ 0 rfl (Nat.zero_le _)
def asmO (r:D) (ob':Obs):QT:=fun d xs ob=>some (.ok (CallL Tryz.prog d xs ob fun r0 ob0=>r0=r/\ob0=ob') r ob')
theorem Z0K (r:D) (ob':Obs):(asmO r ob').OK:=by intro d xs ob rt h; cases h; exact fun hp=>hp
theorem Zhm (es:LD) (r:Int):let A:=[(0,oR false 1 3 es)];let B:=[dV 0,dF 142 [] []];gC (ctr libT (asmO (dI r) A)) 1 ZeT Zed [] B [] A=(Ow (CF 179 B A fun r0 ob0=>r0=dI r/\ob0=A) (Rt (dB (decide ((0:Int)<=r))) A):Tr):=by intro A B;kernel_rfl
theorem ZlE (l:List Int) (hl:l.length<=4611686018427387904):CF 141 [.vec 0,.func (.func 142) [] []] [(0,.arr false 1 3 (intC .i64 l))] fun r ob=>r= .bool (!l.all Zj)/\ob=[(0,.arr false 1 3 (intC .i64 l))]:=by
 refine CallL.tree Z4 ZkV (Z3 Z2 (Z0K _ _)) (Zhm (intC .i64 l) (bigI l 0)) ?_
 simp only[SS]
 exact⟨Zkl l hl,Zgx l 0 (by decide)⟩
def eXY (x y:Int):Nat->Int->List D:=fun _ n=>if n=0 then [.int .i64 x] else [.int .i64 y]
theorem Zcj (s:LU) (b:Bool) (o:Option Int) (es:LD) (x y:Int):let A:=[(0,oR false 1 3 es)];let B:=(↑(List.length es):Int);let C:=(D.tuple [dI (Option.getD o (0:Int)),dB (Option.isSome o)]);let E:=(Rt (D.tuple [dI (0:Int),dB false]) A);let F:=[(45:UInt8)];let G:=((0:Int)-x);gC (ctr (PT.or fitP (asmP (resT o))) (asmO (dB b) A) (eXY x y)) 1 Zf2 Zem [] [dS s,dV 0] [] A=(Ow (CF 141 [dV 0,dF 142 [] []] A fun r0 ob0=>r0=dB b/\ob0=A) (brT (!b) (brT (decide (B=(1:Int))) (Ow ((0:Int)<=(0:Int)/\(0:Int)<B) (Ow (es[0]? = some [dI x]) (I8 G (Ow True (Ow (((-9223372036854775808:Int)<=G*if s=F then (1:Int) else (0:Int))/\(G*if s=F then (1:Int) else (0:Int))<=(9223372036854775807:Int)) (Rt (D.tuple [dI (G*if s=F then (1:Int) else (0:Int)),dB (decide (s=F))]) A)))))) (brT (decide (B=(2:Int))) (Ow ((0:Int)<=(0:Int)/\(0:Int)<B) (Ow (es[0]? = some [dI x]) (Ow ((0:Int)<=(1:Int)/\(1:Int)<B) (Ow (es[1]? = some [dI y]) (Ow (FK 145 [dS s,dI x,dI y] C) (Rt C A)))))) E)) E):Tr):=by intro A B C E F G;kernel_rfl
theorem Z9N {s:LU} {l:List Int} (h:l.all Zj=false):QP s l=none:=by
 unfold QP
 rw[if_neg (by simp[h])]
theorem Z9O (s:LU) (l:List Int) (hl:l.length<=4611686018427387904):CF 119 [.str s,.vec 0] [(0,.arr false 1 3 (intC .i64 l))] fun r ob=>r=resT (QP s l)/\ob=[(0,.arr false 1 3 (intC .i64 l))]:=by
 refine CallL.tree Z4 Zl6 (Z3 (PT.or_ok Z5u (Zl _)) (Z0K _ _)) (Zcj s (!l.all Zj) (fitO (Z2s s (l.getD 0 0) (l.getD 1 0))) (intC .i64 l) (l.getD 0 0) (l.getD 1 0)) ?_
 simp only[SS,Zy]
 refine⟨ZlE l hl,fun hb=>⟨fun h1=> ?_,fun h1=>⟨fun h2=> ?_,fun h2=> ?_⟩⟩,fun hb=>by rw[Z9N hb]; rfl⟩
 ·match l,h1,hb with
  | [a],_,hb =>
   have ha:=Zo.1 (show Zj a=true by simpa using hb)
   refine⟨by simp,rfl,by simp only[List.getD_cons_zero]; omega,by simp only[List.getD_cons_zero]; split <;> omega, ?_⟩
   simp only[QP,hb,if_true,List.getD_cons_zero]
   by_cases hs:s=[45]
   ·simp[hs,resT]
   ·simp[hs,resT]
 ·match l,h2,hb with
  | [a,b],_,hb =>
   have hab:Zj a=true/\Zj b=true:=by simpa using hb
   refine⟨by simp,rfl,by simp,rfl, ?_, ?_⟩
   ·exact Zgs s a b hab.1 hab.2
   ·simp only[QP,hb,if_true]; rfl
 ·match l,h1,h2,hb with
  | [],_,_,_=>rfl
  | [a],h,_,_=>exact absurd rfl h
  | [a,b],_,h,_=>exact absurd rfl h
  | _::_::_::_,_,_,hb=>simp only[QP,hb,if_true]; rfl
end Go.Proofs.YtobgkdlghljdlaaGreatDoor
/- Small comparisons. -/
namespace Go.Proofs.YtobgkdlghljdlaaGreatDoor
open Go.Sx
def asmQ (r:D):QT:=fun d xs ob=>match ob with
 | []=>some (.ok (CallL Tryz.prog d xs [] fun r0 ob0=>r0=r/\ob0=[]) r [])
 | _=>none
theorem Z02 (r:D):(asmQ r).OK:=by
 intro d xs ob rt h
 unfold asmQ at h
 split at h
 ·cases h; exact fun hp=>hp
 ·cases h
theorem Zh5 (n:Int):gP (ctr libT) ZeV Zef [dI n]=(Rt (D.bool !decide (n=n)) []:Tr):=by kernel_rfl
theorem Zk7 (n:Int):FK 130 [.int .i64 n] (.bool false):=by
 refine FnOK.tree Z4 ZkY (Z3 Z2 Z0) (Zh5 n) ?_
 simp[Ze]
def nanP:PT:=fun f xs=>match xs with
 | [.int .i64 n]=>if f=130 then some (.ok True (.bool false) []) else none
 | _=>none
theorem Zfw:nanP.OK:=by
 intro f xs rt h
 unfold nanP at h
 split at h
 ·split at h
  ·rename_i hf; subst hf; cases h; exact fun _=>Zk7 _
  ·cases h
 ·cases h
theorem Zhq (a b:Int):gP (ctr nanP) rs93 sc93 [dI a,dI b]=(Ow True (Ow True (brT (decide (a<b)) (Rt (dI (-1:Int)) []) (brT (decide (b<a)) (Rt (dI (1:Int)) []) (Rt (dI (0:Int)) [])))):Tr):=by kernel_rfl
theorem Zfv (a b:Int):FK 93 [.int .i64 a,.int .i64 b] (.int .i64 (ncmp a b)):=by
 refine FnOK.tree Z4 fp93 (Z3 Zfw Z0) (Zhq a b) ?_
 simp only[SS]
 refine⟨fun h=>by simp[ncmp,h],fun h=>⟨fun h2=> ?_,fun h2=> ?_⟩⟩
 ·simp[ncmp,h,h2]
 ·simp[ncmp,h,h2]
theorem Zhc (es:LD) (k:Int):gP (ctr libT) Z8w Z4Y [dL es [],dU k]=(Jm (cut Z4Y 0) { tm:=[(0,dL es []),(1,dU k),(7,dI (↑(List.length es):Int)),(8,dI (0:Int))],ob:=[] }:Tr):=by kernel_rfl
def hdIx (es:LD) (k n i:Int):St:=⟨[(0,.slice es []),(1,.int .u8 k),(7,.int .i64 n),(8,.int .i64 i)],[]⟩
theorem Z6Z (es:LD) (k n i c:Int):gH (ctr libT Qg (eOne [dU c])) 0 true Z8w (cut Z4Y 0) (hdIx es k n i)=(brT (decide (i<n)) (Ow ((0:Int)<=i/\es[Int.toNat i]? = some [dU c]) (brT (decide (k=c)) (Rt (dI i) []) (I8 (i+(1:Int)) (Jm (cut Z4Y 0) { tm:=[(0,dL es []),(1,dU k),(7,dI n),(8,dI (i+(1:Int)))],ob:=[] })))) (Rt (dI (-1:Int)) []):Tr):=by kernel_rfl
def ixF (k:Int):List Int->Int->Int
 | [],_=> -1
 | a::r,i=>if k=a then i else ixF k r (i+1)
theorem ZnM (l:List Int) (k:Int) (hl:l.length<=4611686018427387904): ∀ (m i:Nat),l.length-i=m->i<=l.length →
  At Tryz.prog 0 (cut Z4Y 0) (hdIx (intC .u8 l) k l.length i) (FinQ true 0 Z8w fun r _=>r= .int .i64 (ixF k (l.drop i) i)):=by
 intro m
 induction m with
 | zero =>
  intro i hm hi
  refine At.tree (Z3 Z2 Z0) (Z6Z (intC .u8 l) k l.length i 0) ?_
  rw[List.drop_eq_nil_of_le (by omega)]
  simp only[SS]
  exact⟨fun h=>by omega,fun _=>rfl⟩
 | succ m ih =>
  intro i hm hi
  have h1:i<l.length:=by omega
  refine At.tree (Z3 Z2 Z0) (Z6Z (intC .u8 l) k l.length i l[i]) ?_
  rw[Za h1]
  simp only[SS,ixF]
  refine⟨fun _=>⟨⟨by omega,QV h1⟩,fun h=>by rw[if_pos h],fun h=>⟨by omega, ?_⟩⟩,fun h=>by omega⟩
  rw[if_neg h]; exact ih (i+1) (by omega) (by omega)
theorem Zku (k:Int):FK 131 [.slice [[.int .u8 1],[.int .u8 2],[.int .u8 4],[.int .u8 3],[.int .u8 5],[.int .u8 6]] [],.int .u8 k] (.int .i64 (idxI k)):=by
 have h:=ZnM [1,2,4,3,5,6] k (by decide) _ 0 rfl (Nat.zero_le _)
 exact FnOK.tree Z4 ZkX (Z3 Z2 Z0) (Zhc _ k) h
def idxP:PT:=fun f xs=>match xs with
 | [.slice [[.int .u8 1],[.int .u8 2],[.int .u8 4],[.int .u8 3],[.int .u8 5],[.int .u8 6]] [],.int .u8 k]=>if f=131 then some (.ok True (.int .i64 (idxI k)) []) else none
 | _=>none
theorem ZfP:idxP.OK:=by
 intro f xs rt h
 unfold idxP at h
 split at h
 ·split at h
  ·rename_i hf; subst hf; cases h; exact fun _=>Zku _
  ·cases h
 ·cases h
theorem Zch (k:Int):let A:=((↑(6:Nat):Int)+k);gP (ctr idxP) rs94 sc94 [dU k]=(Ow True (brT (decide ((0:Int)<=idxI k)) (Rt (dI (idxI k)) []) (I8 k (I8 A (Rt (dI A) [])))):Tr):=by intro A;kernel_rfl
theorem Zfg (k:Int) (hk:0<=k/\k<=255):FK 94 [.int .u8 k] (.int .i64 (rkI k)):=by
 refine FnOK.tree Z4 fp94 (Z3 ZfP Z0) (Zch k) ?_
 simp only[SS]
 unfold idxI rkI
 refine⟨fun h=> ?_,fun h=>⟨by omega,⟨by omega, ?_⟩⟩⟩
 ·(repeat' split) <;> first | rfl | (split at h <;> omega) | (simp_all; done)
 ·(repeat' split) <;> first | omega | (simp_all; done)
theorem Zmk (es:LD):gP (ctr libT) rs95 sc95 [dL es []]=(Jm (cut sc95 0) { tm:=[(3,dI (0:Int)),(6,dL es []),(7,dI (↑(List.length es):Int)),(8,dI (0:Int))],ob:=[] }:Tr):=by kernel_rfl
def hdOr (es:LD) (n i:Int):St:=⟨[(3,.int .i64 0),(6,.slice es []),(7,.int .i64 n),(8,.int .i64 i)],[]⟩
theorem Za8 (es:LD) (n i c:Int):gH (ctr libT Qg (eOne [dI c])) 0 true rs95 (cut sc95 0) (hdOr es n i)=(brT (decide (i<n)) (Ow ((0:Int)<=i/\es[Int.toNat i]? = some [dI c]) (brT (!decide (c=(0:Int))) (Rt (dI c) []) (I8 (i+(1:Int)) (Jm (cut sc95 0) { tm:=[(3,dI (0:Int)),(6,dL es []),(7,dI n),(8,dI (i+(1:Int)))],ob:=[] })))) (Rt (dI (0:Int)) []):Tr):=by kernel_rfl
theorem ZnH (l:List Int) (hl:l.length<=4611686018427387904): ∀ (m i:Nat),l.length-i=m->i<=l.length →
  At Tryz.prog 0 (cut sc95 0) (hdOr (intC .i64 l) l.length i) (FinQ true 0 rs95 fun r _=>r= .int .i64 (fst0 (l.drop i))):=by
 intro m
 induction m with
 | zero =>
  intro i hm hi
  refine At.tree (Z3 Z2 Z0) (Za8 (intC .i64 l) l.length i 0) ?_
  rw[List.drop_eq_nil_of_le (by omega)]
  simp only[SS]
  exact⟨fun h=>by omega,fun _=>rfl⟩
 | succ m ih =>
  intro i hm hi
  have h1:i<l.length:=by omega
  refine At.tree (Z3 Z2 Z0) (Za8 (intC .i64 l) l.length i l[i]) ?_
  rw[Za h1]
  simp only[SS,fst0]
  refine⟨fun _=>⟨⟨by omega,QV h1⟩,fun h=>by rw[if_pos h],fun h=>⟨by omega, ?_⟩⟩,fun h=>by omega⟩
  rw[if_neg (by simpa using h)]; exact ih (i+1) (by omega) (by omega)
theorem or_ok (a b c d:Int):FK 95 [.slice [[.int .i64 a],[.int .i64 b],[.int .i64 c],[.int .i64 d]] []] (.int .i64 (fst0 [a,b,c,d])):=by
 have h:=ZnH [a,b,c,d] (by simp) _ 0 rfl (Nat.zero_le _)
 exact FnOK.tree Z4 fp95 (Z3 Z2 Z0) (Zmk _) h
end Go.Proofs.YtobgkdlghljdlaaGreatDoor
/- term.Compare. -/
namespace Go.Proofs.YtobgkdlghljdlaaGreatDoor
open Go.Sx
theorem Zg {l:List Tm} {i:Nat} (h:i<l.length):(Tm.cellsL l)[i]? = some l[i].cells:=by rw[Zp]; simp[h]
theorem Z40 {B:Nat} {l:List Tm} (h:Tm.wfL B l) {t:Tm} (ht:t∈l):t.wf B:=QQ.1 h t ht
def eTwo (t0:Nat) (c d:List D):Nat->Int->List D:=fun t _=>if t=t0 then c else d
theorem Zmo (es fs e e':LD):gC (ctr libT) 0 rs97 sc97 [] [dL es e,dL fs e',dF 58 [] []] [] []=(Jm (cut sc97 0) { tm:=[(0,dL es e),(1,dL fs e'),(2,dF 58 [] []),(11,dL es e),(12,dI (↑(List.length es):Int)),(13,dI (0:Int))],ob:=[] }:Tr):=by kernel_rfl
def hdCF (es fs e e':LD) (n i:Int):St:=⟨[(0,.slice es e),(1,.slice fs e'),(2,.func (.func 58) [] []),(11,.slice es e),(12,.int .i64 n),(13,.int .i64 i)],[]⟩
theorem Z5K (es fs e e':LD) (m i k n:Int) (s:LU) (a:LD) (k' n':Int) (s':LU) (a':LD) (c:Int):let A:=[dU k',dI n',dS s',dL a' []];let B:=[dU k,dI n,dS s,dL a []];let C:=(↑(List.length fs):Int);let E:=cut sc97 0;let F:=(i+(1:Int));gH (ctr libT (asmQ (dI c)) (eTwo 16 B A)) 0 false rs97 E (hdCF es fs e e' m i)=(brT (decide (i<m)) (Ow ((0:Int)<=i/\es[Int.toNat i]? = some B) (brT (decide (C<=i)) (Rt (dI (1:Int)) []) (Ow ((0:Int)<=i/\fs[Int.toNat i]? = some A) (Ow (CF 58 [dA B,dA A] [] fun r0 ob0=>r0=dI c/\ob0=[]) (brT (!decide (c=(0:Int))) (Rt (dI c) []) (I8 F (Jm E { tm:=[(0,dL es e),(1,dL fs e'),(2,dF 58 [] []),(11,dL es e),(12,dI m),(13,dI F)],ob:=[] }))))))) (brT (decide ((↑(List.length es):Int)<C)) (Rt (dI (-1:Int)) []) (Rt (dI (0:Int)) [])):Tr):=by intro A B C E F;kernel_rfl
def CmpC (x y:Tm):Prop:=CF 58 [.agg x.cells,.agg y.cells] [] fun r ob=>r= .int .i64 (x.cmp y)/\ob=[]
theorem ZoI (e e':LD) (l q:List Tm) (hl:l.length<=281474976710656) (hq:q.length<=281474976710656) (H: ∀ x∈l, ∀ y∈q,CmpC x y): ∀ (m i:Nat),l.length-i=m->i<=l.length->i<=q.length →
  At Tryz.prog 0 (cut sc97 0) (hdCF (Tm.cellsL l) (Tm.cellsL q) e e' l.length i) (FinQ false 0 rs97 fun r ob=>r= .int .i64 (Tm.cmpL (l.drop i) (q.drop i))/\ob=[]):=by
 intro m
 induction m with
 | zero =>
  intro i hm hi hiq
  refine At.tree (Z3 Z2 (Z02 (.int .i64 0))) (Z5K (Tm.cellsL l) (Tm.cellsL q) e e' l.length i 0 0 [] [] 0 0 [] [] 0) ?_
  rw[List.drop_eq_nil_of_le (by omega)]
  simp only[SS,Z1]
  refine⟨fun h=>by omega,fun _=>⟨fun h=> ?_,fun h=> ?_⟩⟩
  ·rw[Za (show i<q.length by omega)]; rfl
  ·rw[List.drop_eq_nil_of_le (by omega)]; rfl
 | succ m ih =>
  intro i hm hi hiq
  have h1:i<l.length:=by omega
  have hx:=Zg h1
  have hmx:l[i]∈l:=List.getElem_mem h1
  have hd:=Za h1
  by_cases h2:i<q.length
  ·have hy:=Zg h2
   have hC:=H _ hmx _ (List.getElem_mem h2)
   rw[hd,Za h2]
   simp only[Tm.cmpL]
   unfold CmpC at hC
   generalize hc:Tm.cmp l[i] q[i]=c at hC ⊢
   generalize l[i]=x at hx hC
   generalize q[i]=y at hy hC
   obtain⟨k,n,s,a⟩:=x
   obtain⟨k',n',s',a'⟩:=y
   refine At.tree (Z3 Z2 (Z02 (.int .i64 c))) (Z5K (Tm.cellsL l) (Tm.cellsL q) e e' l.length i k n s (Tm.cellsL a) k' n' s' (Tm.cellsL a') c) ?_
   simp only[SS,Z1]
   refine⟨fun _=>⟨⟨by omega,hx⟩,fun h=>by omega,fun _=>⟨⟨by omega,hy⟩,hC,fun h=>by rw[if_pos h],fun h=>⟨by omega, ?_⟩⟩⟩,fun h=>by omega⟩
   rw[if_neg (by simpa using h)]
   exact ih (i+1) (by omega) (by omega) (by omega)
  ·rw[hd,List.drop_eq_nil_of_le (show q.length<=i by omega)]
   generalize l[i]=x at hx
   obtain⟨k,n,s,a⟩:=x
   refine At.tree (Z3 Z2 (Z02 (.int .i64 0))) (Z5K (Tm.cellsL l) (Tm.cellsL q) e e' l.length i k n s (Tm.cellsL a) 0 0 [] [] 0) ?_
   simp only[SS,Z1]
   exact⟨fun _=>⟨⟨by omega,hx⟩,fun _=>rfl,fun h=>by omega⟩,fun h=>by omega⟩
theorem ZlT (e e':LD) (l q:List Tm) (hl:l.length<=281474976710656) (hq:q.length<=281474976710656) (H: ∀ x∈l, ∀ y∈q,CmpC x y):CF 97 [.slice (Tm.cellsL l) e,.slice (Tm.cellsL q) e',.func (.func 58) [] []] [] fun r ob=>r= .int .i64 (Tm.cmpL l q)/\ob=[]:=by
 refine CallL.tree Z4 fp97 (Z3 Z2 Z0) (Zmo (Tm.cellsL l) (Tm.cellsL q) e e') ?_
 simp only[SS,Z1]
 exact ZoI e e' l q hl hq H _ 0 rfl (Nat.zero_le _) (Nat.zero_le _)
def Zgo:PT:=fun f xs=>match xs with
 | [.int .u8 k]=>if f=94 then some (.ok (0<=k/\k<=255) (.int .i64 (rkI k)) []) else none
 | [.int .i64 a,.int .i64 b]=>if f=93 then some (.ok True (.int .i64 (ncmp a b)) []) else none
 | [.slice [[.int .i64 a],[.int .i64 b],[.int .i64 c],[.int .i64 d]] []]=>if f=95 then some (.ok True (.int .i64 (fst0 [a,b,c,d])) []) else none
 | xs=>libT f xs
theorem Z6M:Zgo.OK:=by
 intro f xs rt h
 unfold Zgo at h
 split at h
 ·split at h
  ·rename_i hf; subst hf; cases h; exact fun hk=>Zfg _ hk
  ·cases h
 ·split at h
  ·rename_i hf; subst hf; cases h; exact fun _=>Zfv _ _
  ·cases h
 ·split at h
  ·rename_i hf; subst hf; cases h; exact fun _=>or_ok _ _ _ _
  ·cases h
 ·exact Z2 _ _ _ h
theorem Zdd (k n:Int) (s:LU) (a:LD) (k' n':Int) (s':LU) (a':LD) (c:Int) (e e':LD):let A:=(Ow True (Ow True (Rt (dI (fst0 [ncmp (↑(List.length a):Int) (↑(List.length a'):Int),Lib.compareBytes s s',c,ncmp n n'])) [])));let B:=[dL a e,dL a' e',dF 58 [] []];gC (ctr Zgo (asmQ (dI c))) 0 rs58 sc58 [] [dA [dU k,dI n,dS s,dL a e],dA [dU k',dI n',dS s',dL a' e']] [] []=(Ow ((0:Int)<=k/\k<=(255:Int)) (Ow ((0:Int)<=k'/\k'<=(255:Int)) (Ow True (brT (!decide (ncmp (rkI k) (rkI k')=(0:Int))) (Rt (dI (ncmp (rkI k) (rkI k'))) []) (Ow True (brT (!decide (ncmp n n'=(0:Int))) (brT (decide (k=(1:Int))) (Rt (dI (ncmp n n')) []) (Ow True (Ow True (Ow (CF 97 B [] fun r0 ob0=>r0=dI c/\ob0=[]) A)))) (Ow True (Ow True (Ow (CF 97 B [] fun r0 ob0=>r0=dI c/\ob0=[]) A)))))))):Tr):=by intro A B;kernel_rfl
def Z9L:Tm->LD->List D
 | .mk k n s l,e=>[.int .u8 (k:Int),.int .i64 n,.str s,.slice (Tm.cellsL l) e]
theorem Z0z (x:Tm):Z9L x []=x.cells:=by cases x; rfl
theorem Z6L: ∀ (x y:Tm) (e e':LD),x.wf 281474976710656->y.wf 281474976710656->CF 58 [.agg (Z9L x e),.agg (Z9L y e')] [] fun r ob=>r= .int .i64 (x.cmp y)/\ob=[]
 | .mk k n s l,.mk k' n' s' l',e,e',hx,hy=>by
  simp only[Tm.wf] at hx hy
  obtain⟨hk,hn1,hn2,hs,hl,hw⟩:=hx
  obtain⟨hk',hn1',hn2',hs',hl',hw'⟩:=hy
  have hC:=ZlT e e' l l' hl hl' fun x hx y hy=>by
   have:=Z6L x y [] [] (Z40 hw hx) (Z40 hw' hy)
   rw[Z0z,Z0z] at this
   exact this
  refine CallL.tree Z4 fp58 (Z3 Z6M (Z02 (.int .i64 (Tm.cmpL l l')))) (Zdd k n s (Tm.cellsL l) k' n' s' (Tm.cellsL l') (Tm.cmpL l l') e e') ?_
  simp only[SS,Z1,Tm.cmp,fst0]
  have e1:((k:Int)=1)=(k=1):=propext (by omega)
  simp only[e1]
  refine⟨by omega,by omega,fun h=>by rw[if_pos h],fun h=>⟨fun h2=>⟨fun h3=> ?_,fun h3=>⟨hC, ?_⟩⟩,fun h2=>⟨hC, ?_⟩⟩⟩
  ·subst h3
   have h':ncmp (rkI 1) (rkI k')=0:=h
   simp[h',h2]
  ·simp[h,h2,h3]
  ·simp[h,h2]
termination_by x=>SizeOf.sizeOf x
decreasing_by
 have:=List.sizeOf_lt_of_mem hx
 simp only[Tm.mk.sizeOf_spec]
 omega
theorem ZbV (x y:Tm) (hx:x.wf 281474976710656) (hy:y.wf 281474976710656):CmpC x y:=by
 have:=Z6L x y [] [] hx hy
 rw[Z0z,Z0z] at this
 exact this
end Go.Proofs.YtobgkdlghljdlaaGreatDoor
/- Equality,sizes. -/
namespace Go.Proofs.YtobgkdlghljdlaaGreatDoor
open Go.Sx
theorem Zmg (k n:Int) (s:LU) (a:LD) (m c:Int):gP (ctr (asmP (dI c))) rs34 sc34 [dA [dU k,dI n,dS s,dL a []],dI m]=(I8 (m-(1:Int)) (Ow (FK 33 [dL a [],dI (m-(1:Int))] (dI c)) (I8 ((1:Int)+c) (Rt (dI ((1:Int)+c)) []))):Tr):=by kernel_rfl
theorem ZgQ (a:LD) (m:Int):gP (ctr libT) rs33 sc33 [dL a [],dI m]=(Jm (cut sc33 0) { tm:=[(0,dL a []),(1,dI m),(5,dI (0:Int)),(6,dI (0:Int))],ob:=[] }:Tr):=by kernel_rfl
def hdSz (a:LD) (m n i:Int):St:=⟨[(0,.slice a []),(1,.int .i64 m),(5,.int .i64 n),(6,.int .i64 i)],[]⟩
theorem Z3Z (a:LD) (m n i kx nx:Int) (sx:LU) (ax:LD) (c:Int):let A:=[dU kx,dI nx,dS sx,dL ax []];let B:=Rt (dI n) [];let C:=cut sc33 0;let E:=(i+(1:Int));gH (ctr (asmP (dI c)) Qg (eOne A)) 0 true rs33 C (hdSz a m n i)=(brT (decide (i<(↑(List.length a):Int))) (brT (decide (n<=m)) (Ow ((0:Int)<=i/\a[Int.toNat i]? = some A) (I8 (m-n) (Ow (FK 34 [dA A,dI (m-n)] (dI c)) (I8 (n+c) (I8 E (Jm C { tm:=[(0,dL a []),(1,dI m),(5,dI (n+c)),(6,dI E)],ob:=[] })))))) B) B:Tr):=by intro A B C E;kernel_rfl
theorem Zmn (k n:Int) (s:LU) (a:LD) (k' n':Int) (s':LU) (a':LD) (c:Int):let A:=[dA [dU k,dI n,dS s,dL a []],dA [dU k',dI n',dS s',dL a' []]];gP (ctr (asmP (dI c))) rs27 sc27 A=(Ow (FK 58 A (dI c)) (Rt (dB (decide (c=(0:Int)))) []):Tr):=by intro A;kernel_rfl
def SzP (x:Tm):Prop:= ∀ m:Int,0<=m->m<=1000000->FK 34 [.agg x.cells,.int .i64 m] (.int .i64 (x.sz m))
theorem Zie (l:List Tm) (hl:l.length<=281474976710656) (H: ∀ x∈l,SzP x) (M:Int) (hM: -1<=M/\M<=1000000): ∀ (m i:Nat) (n:Int),l.length-i=m->i<=l.length->0<=n->n<=M+1 →
  At Tryz.prog 0 (cut sc33 0) (hdSz (Tm.cellsL l) M n i) (FinQ true 0 rs33 fun r _=>r= .int .i64 (Tm.szL (l.drop i) M n)):=by
 intro m
 induction m with
 | zero =>
  intro i n hm hi hn hn2
  refine At.tree (Z3 (Zl (.int .i64 0)) Z0) (Z3Z (Tm.cellsL l) M n i 0 0 [] [] 0) ?_
  rw[List.drop_eq_nil_of_le (show l.length<=i by omega)]
  simp only[SS,Z1]
  exact⟨fun h=>by omega,fun _=>rfl⟩
 | succ m ih =>
  intro i n hm hi hn hn2
  have h1:i<l.length:=by omega
  have hx:=Zg h1
  have hC:=H _ (List.getElem_mem h1)
  rw[Za h1]
  simp only[Tm.szL]
  by_cases hnm:n<=M
  ·rw[if_pos hnm]
   have hC2:=hC (M-n) (by omega) (by omega)
   have hge:=Z4S l[i] (M-n)
   have hle:=ZdR l[i] (M-n) (by omega)
   have hI:=ih (i+1) (n+Tm.sz l[i] (M-n)) (by omega) (by omega) (by omega) (by omega)
   generalize Tm.sz l[i] (M-n)=c at hC2 hI hge hle ⊢
   generalize l[i]=x at hx hC2
   obtain⟨kx,nx,sx,ax⟩:=x
   refine At.tree (Z3 (Zl (.int .i64 c)) Z0) (Z3Z (Tm.cellsL l) M n i kx nx sx (Tm.cellsL ax) c) ?_
   simp only[SS,Z1]
   exact⟨fun _=>⟨fun _=>⟨⟨by omega,hx⟩,by omega,hC2,by omega,by omega,hI⟩,fun h=>by omega⟩,fun h=>by omega⟩
  ·rw[if_neg hnm]
   refine At.tree (Z3 (Zl (.int .i64 0)) Z0) (Z3Z (Tm.cellsL l) M n i 0 0 [] [] 0) ?_
   simp only[SS,Z1]
   exact⟨fun _=>⟨fun h=>by omega,fun _=>trivial⟩,fun h=>by omega⟩
theorem Zct (l:List Tm) (hl:l.length<=281474976710656) (H: ∀ x∈l,SzP x) (M:Int) (hM: -1<=M/\M<=1000000):FK 33 [.slice (Tm.cellsL l) [],.int .i64 M] (.int .i64 (Tm.szL l M 0)) :=
 FnOK.tree Z4 fp33 (Z3 Z2 Z0) (ZgQ (Tm.cellsL l) M) (Zie l hl H M hM _ 0 0 rfl (Nat.zero_le _) (by omega) (by omega))
theorem ZdQ: ∀ (x:Tm),x.wf 281474976710656->SzP x
 | .mk k n s l,hx=>by
  simp only[Tm.wf] at hx
  obtain⟨hk,hn1,hn2,hs,hl,hw⟩:=hx
  intro m h0 h1
  have hC:=Zct l hl (fun x hx=>ZdQ x (Z40 hw hx)) (m-1) (by omega)
  have hge:=Z1R l (m-1) 0
  have hle:=Z87 l (m-1) 0 (by omega)
  refine FnOK.tree Z4 fp34 (Z3 (Zl (.int .i64 (Tm.szL l (m-1) 0))) Z0) (Zmg k n s (Tm.cellsL l) m (Tm.szL l (m-1) 0)) ?_
  simp only[SS]
  exact⟨by omega,hC,by omega,rfl⟩
termination_by x=>SizeOf.sizeOf x
decreasing_by
 have:=List.sizeOf_lt_of_mem hx
 simp only[Tm.mk.sizeOf_spec]
 omega
theorem ZjT:ZA Tryz.prog 58=true:=by kernel_rfl
theorem ZlO (x y:Tm) (hx:x.wf 281474976710656) (hy:y.wf 281474976710656):FK 58 [.agg x.cells,.agg y.cells] (.int .i64 (x.cmp y)) :=
 FnOK.of_call ZjT ((ZbV x y hx hy).mono fun r ob ⟨h1,h2⟩=>by subst h1; subst h2; exact .inr ⟨rfl,rfl⟩)
theorem Z6H (x y:Tm) (hx:x.wf 281474976710656) (hy:y.wf 281474976710656):FK 27 [.agg x.cells,.agg y.cells] (.bool (x.eqb y)):=by
 have hC:=ZlO x y hx hy
 rw[Zge]
 generalize x.cmp y=c at hC ⊢
 obtain⟨k,n,s,l⟩:=x
 obtain⟨k',n',s',l'⟩:=y
 refine FnOK.tree Z4 fp27 (Z3 (Zl (.int .i64 c)) Z0) (Zmn k n s (Tm.cellsL l) k' n' s' (Tm.cellsL l') c) ?_
 simp only[SS]
 exact hC
def sCtr (l:List (Nat × D)):Ctr:=⟨fun t f az=>match lk l t with | some r=>some (.ok (FK f az r) r []) | none=>none,fun _=>Qg,noE⟩
theorem Z8m (l:List (Nat × D)):(sCtr l).OK Tryz.prog:=by
 refine⟨fun t f az rt h=> ?_,fun _=>Z0⟩
 simp only[sCtr] at h
 split at h
 ·cases h; exact fun hp=>hp
 ·cases h
end Go.Proofs.YtobgkdlghljdlaaGreatDoor
