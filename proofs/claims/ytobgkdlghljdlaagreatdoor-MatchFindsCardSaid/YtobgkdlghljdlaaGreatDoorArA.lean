/- Own work: a layer over the kit: plain data,a walk over it,its soundness. -/
import Derived.Test.YtobgkdlghljdlaaGreatDoorLibT
import Derived.Test.YtobgkdlghljdlaaGreatDoorSx8
set_option linter.unusedSectionVars false
set_option linter.unusedVariables false
set_option linter.unusedSimpArgs false
set_option linter.deprecated false
set_option maxRecDepth 100000
/- arith.Calc. -/
namespace Go.Proofs.YtobgkdlghljdlaaGreatDoor
open Go.Sx
theorem Zir (n:Int):gP (ctr libT) ZfQ Zfb [dI n]=(brT (decide ((-2147483647:Int)<=n)) (Rt (dB (decide (n<=(2147483647:Int)))) []) (Rt (dB false) []):Tr):=by kernel_rfl
theorem Zmv (n:Int):FK 143 [.int .i64 n] (.bool (Zl n)):=by
 refine FnOK.tree Z4 Zm0 (Z2 Z1 Z0) (Zir n) ?_
 simp only[SS,Zl]
 exact⟨fun h=>by simp[h],fun h=>by simp[h]⟩
theorem Zd8 (s:LU):gP (ctr libT) ZfP Zfa [dS s]=(brT (decide (s=[(45:UInt8)])) (Rt (dI (1:Int)) []) (Rt (dI (0:Int)) []):Tr):=by kernel_rfl
theorem Zjq (s:LU):FK 144 [.str s] (.int .i64 (if s=[45] then 1 else 0)):=by
 refine FnOK.tree Z4 ZlZ (Z2 Z1 Z0) (Zd8 s) ?_
 simp only[SS]
 exact⟨fun h=>by rw[if_pos h],fun h=>by rw[if_neg h]⟩
abbrev abO (a b:Int):Obs:=[(0,.cells [.int .i64 a]),(1,.cells [.int .i64 b])]
theorem ZnL (a b:Int):let A:=[(0,oC [dI a]),(1,oC [dI b])];gC (ctr libT) 2 ZfM Zf7 [] [] [dP 0 0,dP 1 0] A=(I8 (a+b) (Rt (dI (a+b)) A):Tr):=by intro A;kernel_rfl
theorem ZnK (a b:Int):let A:=[(0,oC [dI a]),(1,oC [dI b])];gC (ctr libT) 2 ZfL Zf6 [] [] [dP 0 0,dP 1 0] A=(I8 (a-b) (Rt (dI (a-b)) A):Tr):=by intro A;kernel_rfl
theorem ZnJ (a b:Int):let A:=[(0,oC [dI a]),(1,oC [dI b])];gC (ctr libT) 2 ZfK Zf5 [] [] [dP 0 0,dP 1 0] A=(I8 (a*b) (Rt (dI (a*b)) A):Tr):=by intro A;kernel_rfl
theorem ZnI (a b:Int):let A:=[(0,oC [dI a]),(1,oC [dI b])];let B:=Int.tdiv a b;gC (ctr libT) 2 ZfJ Zf4 [] [] [dP 0 0,dP 1 0] A=(Ow (b≠(0:Int)) (I8 B (Rt (dI B) A)):Tr):=by intro A B;kernel_rfl
theorem ZnH (a b:Int):let A:=[(0,oC [dI a]),(1,oC [dI b])];gC (ctr libT) 2 ZfI Zf3 [] [] [dP 0 0,dP 1 0] A=(Ow (b≠(0:Int)) (Rt (dI (Int.tmod a b)) A):Tr):=by intro A;kernel_rfl
def ClC (f:FuncId) (a b r:Int):Prop:=CallL Tryz.prog (.func (.func f) [] [.ptr 0 0,.ptr 1 0]) [] (abO a b) fun r0 ob0=>r0= .int .i64 r/\ob0=abO a b
theorem Zn5 (a b:Int) (ha:Zl a=true) (hb:Zl b=true):ClC 180 a b (a+b):=by
 rw[Zr] at ha hb
 refine CallL.tree Z4 ZlT (Z2 Z1 Z0) (ZnL a b) ?_
 simp only[SS]
 omega
theorem Zn4 (a b:Int) (ha:Zl a=true) (hb:Zl b=true):ClC 181 a b (a-b):=by
 rw[Zr] at ha hb
 refine CallL.tree Z4 ZlS (Z2 Z1 Z0) (ZnK a b) ?_
 simp only[SS]
 omega
theorem Zn3 (a b:Int) (ha:Zl a=true) (hb:Zl b=true):ClC 182 a b (a*b):=by
 have:=Zgv ha hb
 refine CallL.tree Z4 ZlR (Z2 Z1 Z0) (ZnJ a b) ?_
 simp only[SS]
 omega
theorem Zq4 (a b:Int) (ha:Zl a=true) (hb:b≠0):ClC 183 a b (a.tdiv b):=by
 have:=Zr.1 (ZbJ (b:=b) ha)
 refine CallL.tree Z4 ZlQ (Z2 Z1 Z0) (ZnI a b) ?_
 simp only[SS]
 exact⟨hb,by omega⟩
theorem Zq3 (a b:Int) (ha:Zl a=true) (hb:b≠0):ClC 184 a b (a.tmod b):=by
 refine CallL.tree Z4 ZlP (Z2 Z1 Z0) (ZnH a b) ?_
 simp only[SS]
 exact hb
def clQ:QT:=fun d xs ob=>match d,xs,ob with
 | .func (.func f) [] [.ptr 0 0,.ptr 1 0],[],[(0,.cells [.int .i64 a]),(1,.cells [.int .i64 b])] =>
  if f=180 then some (.ok (ClC 180 a b (a+b)) (.int .i64 (a+b)) (abO a b))
  else if f=181 then some (.ok (ClC 181 a b (a-b)) (.int .i64 (a-b)) (abO a b))
  else if f=182 then some (.ok (ClC 182 a b (a*b)) (.int .i64 (a*b)) (abO a b))
  else if f=183 then some (.ok (ClC 183 a b (a.tdiv b)) (.int .i64 (a.tdiv b)) (abO a b))
  else if f=184 then some (.ok (ClC 184 a b (a.tmod b)) (.int .i64 (a.tmod b)) (abO a b))
  else none
 | _,_,_=>none
theorem ZmX:clQ.OK:=by
 intro d xs ob rt h
 unfold clQ at h
 split at h
 ·split at h
  ·rename_i hf; subst hf; cases h; exact fun hp=>hp
  split at h
  ·rename_i hf; subst hf; cases h; exact fun hp=>hp
  split at h
  ·rename_i hf; subst hf; cases h; exact fun hp=>hp
  split at h
  ·rename_i hf; subst hf; cases h; exact fun hp=>hp
  split at h
  ·rename_i hf; subst hf; cases h; exact fun hp=>hp
  ·cases h
 ·cases h
def fitP:PT:=fun f xs=>match xs with
 | [.int .i64 n]=>if f=143 then some (.ok True (.bool (Zl n)) []) else none
 | [.str s]=>if f=144 then some (.ok True (.int .i64 (if s=[45] then 1 else 0)) []) else none
 | _=>none
theorem Z5K:fitP.OK:=by
 intro f xs rt h
 unfold fitP at h
 split at h
 ·split at h
  ·rename_i hf; subst hf; cases h; exact fun _=>Zmv _
  ·cases h
 ·split at h
  ·rename_i hf; subst hf; cases h; exact fun _=>Zjq _
  ·cases h
 ·cases h
theorem Zda (s:LU) (a b:Int):let A:=(Rt (D.tuple [dI (0:Int),dB false]) []);let B:=Int.tdiv a b;let C:=Int.tmod a b;let E:=[(47:UInt8)];let F:=[(92:UInt8)];let G:=Rt (D.tuple [dI (a+b),dB true]) [];let H:=Rt (D.tuple [dI (a-b),dB true]) [];let I:=Rt (D.tuple [dI (a*b),dB true]) [];let J:=Rt (D.tuple [dI B,dB true]) [];let K:=Rt (D.tuple [dI C,dB true]) [];let L:=ClC 180 a b (a+b);let M:=ClC 181 a b (a-b);let N:=ClC 182 a b (a*b);let O:=ClC 183 a b B;let P:=ClC 184 a b C;gP (ctr fitP clQ) ZfO Zf9 [dS s,dI a,dI b]=(brT (decide (s=[(43:UInt8)])) (brT (decide (b=(0:Int))) (brT (decide (s=E)) A (brT (decide (s=F)) A (Ow L (Ow True (brT (!Zl (a+b)) A G))))) (Ow L (Ow True (brT (!Zl (a+b)) A G)))) (brT (decide (s=[(45:UInt8)])) (brT (decide (b=(0:Int))) (brT (decide (s=E)) A (brT (decide (s=F)) A (Ow M (Ow True (brT (!Zl (a-b)) A H))))) (Ow M (Ow True (brT (!Zl (a-b)) A H)))) (brT (decide (s=[(42:UInt8)])) (brT (decide (b=(0:Int))) (brT (decide (s=E)) A (brT (decide (s=F)) A (Ow N (Ow True (brT (!Zl (a*b)) A I))))) (Ow N (Ow True (brT (!Zl (a*b)) A I)))) (brT (decide (s=E)) (brT (decide (b=(0:Int))) (brT (decide (s=E)) A (brT (decide (s=F)) A (Ow O (Ow True (brT (!Zl B) A J))))) (Ow O (Ow True (brT (!Zl B) A J)))) (brT (decide (s=F)) (brT (decide (b=(0:Int))) (brT (decide (s=E)) A (brT (decide (s=F)) A (Ow P (Ow True (brT (!Zl C) A K))))) (Ow P (Ow True (brT (!Zl C) A K)))) A)))):Tr):=by intro A B C E F G H I J K L M N O P;kernel_rfl
theorem Z4y (v:Int):(Zl v=false->D.tuple [.int .i64 0,.bool false]=resT (fitO (some v)))/\(Zl v=true->D.tuple [.int .i64 v,.bool true]=resT (fitO (some v))) :=
 ⟨fun h=>by simp[fitO,resT,h],fun h=>by simp[fitO,resT,h]⟩
theorem Zhx (s:LU) (a b:Int) (ha:Zl a=true) (hb:Zl b=true):FK 145 [.str s,.int .i64 a,.int .i64 b] (resT (fitO (Z2z s a b))):=by
 refine FnOK.tree Z4 ZlY (Z2 Z5K ZmX) (Zda s a b) ?_
 simp only[SS]
 refine⟨fun h=> ?_,fun h=>⟨fun h2=> ?_,fun h2=>⟨fun h3=> ?_,fun h3=>⟨fun h4=> ?_,fun h4=>⟨fun h5=> ?_,fun h5=> ?_⟩⟩⟩⟩⟩
 ·subst h
  have e:Z2z [43] a b=some (a+b):=rfl
  rw[e]
  exact⟨fun _=>⟨fun h=>absurd h (by decide),fun _=>⟨fun h=>absurd h (by decide),fun _=>⟨Zn5 a b ha hb,Z4y _⟩⟩⟩,fun _=>⟨Zn5 a b ha hb,Z4y _⟩⟩
 ·subst h2
  have e:Z2z [45] a b=some (a-b):=rfl
  rw[e]
  exact⟨fun _=>⟨fun h=>absurd h (by decide),fun _=>⟨fun h=>absurd h (by decide),fun _=>⟨Zn4 a b ha hb,Z4y _⟩⟩⟩,fun _=>⟨Zn4 a b ha hb,Z4y _⟩⟩
 ·subst h3
  have e:Z2z [42] a b=some (a*b):=rfl
  rw[e]
  exact⟨fun _=>⟨fun h=>absurd h (by decide),fun _=>⟨fun h=>absurd h (by decide),fun _=>⟨Zn3 a b ha hb,Z4y _⟩⟩⟩,fun _=>⟨Zn3 a b ha hb,Z4y _⟩⟩
 ·subst h4
  refine⟨fun h=> ?_,fun h=> ?_⟩
  ·subst h
   exact⟨fun _=>rfl,fun h=>absurd rfl h⟩
  ·have e:Z2z [47] a b=some (a.tdiv b):=by simp[Z2z,h]
   rw[e]
   exact⟨Zq4 a b ha h,Z4y _⟩
 ·subst h5
  refine⟨fun h=> ?_,fun h=> ?_⟩
  ·subst h
   exact⟨fun h=>absurd h (by decide),fun _=>⟨fun _=>rfl,fun h=>absurd rfl h⟩⟩
  ·have e:Z2z [92] a b=some (a.tmod b):=by simp[Z2z,h]
   rw[e]
   exact⟨Zq3 a b ha h,Z4y _⟩
 ·simp[Z2z,h,h2,h3,h4,h5,fitO,resT]
theorem ZiB (n:Int):gC (ctr fitP) 0 ZfR Zfc [] [dI n] [] []=(Ow True (Rt (D.bool !Zl n) []):Tr):=by kernel_rfl
theorem Zn7 (n:Int):CF 142 [.int .i64 n] [] fun r ob=>r= .bool (!Zl n)/\ob=[]:=by
 refine CallL.tree Z4 Zm1 (Z2 Z5K Z0) (ZiB n) ?_
 simp[Zc,Z7]
def asmP (r:D):PT:=fun f xs=>some (.ok (FK f xs r) r [])
theorem Zn (r:D):(asmP r).OK:=by intro f xs rt h; cases h; exact fun hp=>hp
def bigQ:QT:=fun d xs ob=>match d,xs,ob with
 | .func (.func f) [] [],[.int .i64 n],[]=>if f=142 then some (.ok True (.bool (!Zl n)) []) else none
 | _,_,_=>none
theorem ZaE:bigQ.OK:=by
 intro d xs ob rt h
 unfold bigQ at h
 split at h
 ·split at h
  ·rename_i hf; subst hf; cases h; exact fun _=>Zn7 _
  ·cases h
 ·cases h
def bigI:List Int->Int->Int
 | [],_=> -1
 | a::r,i=>if Zl a=true then bigI r (i+1) else i
theorem Z7f: ∀ (l:List Int) (i:Int),0<=i->(0<=bigI l i ↔ l.all Zl=false)
 | [],i,_=>by simp[bigI]
 | a::r,i,h=>by
  have ih:=Z7f r (i+1) (by omega)
  by_cases hf:Zl a=true
  ·simp only[bigI,hf,if_true,List.all_cons,Bool.true_and]; exact ih
  ·simp[bigI,hf,h]
theorem ZhC (l:List Int) (i:Int) (h:0<=i):(decide (0<=bigI l i))= !(l.all Zl):=by
 have:=Z7f l i h
 cases hq:l.all Zl with
 | true=>simp[this,hq]
 | false=>simp[this,hq]
def eOne (c:List D):Nat->Int->List D:=fun _ _=>c
theorem Za {α:Type} {l:List α} {i:Nat} (h:i<l.length):l.drop i=l[i]::l.drop (i+1):=List.drop_eq_getElem_cons h
theorem Z00 {k:IntKind} {l:List Int} {i:Nat} (h:i<l.length):(intC k l)[i]? = some [.int k l[i]]:=by simp[intC,h]
theorem ZB (k:IntKind) (l:List Int):(intC k l).length=l.length:=by simp[intC]
theorem Zii (es:LD):let A:=[(0,oR false 1 3 es)];gC (ctr libT) 1 Z8Z Z7G [] [dV 0,dF 142 [] []] [] A=(Jm (cut Z7G 0) { tm:=[(0,dV 0),(1,dF 142 [] []),(7,dI (↑(List.length es):Int)),(8,dI (0:Int))],ob:=A }:Tr):=by intro A;kernel_rfl
def ZlC (es:LD) (n i:Int):St:=⟨[(0,.vec 0),(1,.func (.func 142) [] []),(7,.int .i64 n),(8,.int .i64 i)],[(0,.arr false 1 3 es)]⟩
theorem Z7n (es:LD) (n:Int) (i:Nat) (c:Int):let A:=[(0,oR false 1 3 es)];let B:=((↑i:Int)+(1:Int));let C:=cut Z7G 0;gH (ctr libT bigQ (eOne [dI c])) 1 false Z8Z C (ZlC es n (↑i:Int))=(brT (decide ((↑i:Int)<n)) (Ow ((0:Int)<=(↑i:Int)/\(↑i:Int)<(↑(List.length es):Int)) (Ow (es[Int.toNat (↑i:Int)]? = some [dI c]) (Ow True (brT (!Zl c) (Rt (dI (↑i:Int)) A) (I8 B (Jm C { tm:=[(0,dV 0),(1,dF 142 [] []),(7,dI n),(8,dI B)],ob:=A })))))) (Rt (dI (-1:Int)) A):Tr):=by intro A B C;kernel_rfl
theorem Zlt (l:List Int) (hl:l.length<=4611686018427387904): ∀ (m i:Nat),l.length-i=m->i<=l.length →
  At Tryz.prog 1 (cut Z7G 0) (ZlC (intC .i64 l) l.length i) (FinQ false 1 Z8Z fun r ob=>r= .int .i64 (bigI (l.drop i) i)/\ob=[(0,.arr false 1 3 (intC .i64 l))]):=by
 intro m
 induction m with
 | zero =>
  intro i hm hi
  refine At.tree (Z2 Z1 ZaE) (Z7n (intC .i64 l) l.length i 0) ?_
  rw[List.drop_eq_nil_of_le (by omega)]
  simp only[SS]
  exact⟨fun h=>by omega,fun _=>rfl⟩
 | succ m ih =>
  intro i hm hi
  have h1:i<l.length:=by omega
  refine At.tree (Z2 Z1 ZaE) (Z7n (intC .i64 l) l.length i l[i]) ?_
  rw[Za h1]
  simp only[SS,bigI,ZB]
  refine⟨fun _=>⟨by omega,Z00 h1,fun h=>by simp[h],fun h=>⟨by omega, ?_⟩⟩,fun h=>by omega⟩
  rw[if_pos h]; exact ih (i+1) (by omega) (by omega)
theorem Zls (l:List Int) (hl:l.length<=4611686018427387904):CF 179 [.vec 0,.func (.func 142) [] []] [(0,.arr false 1 3 (intC .i64 l))] fun r ob=>r= .int .i64 (bigI l 0)/\ob=[(0,.arr false 1 3 (intC .i64 l))]:=by
 refine CallL.tree Z4 ZlU (Z2 Z1 Z0) (Zii _) ?_
 simp only[SS,ZB]
 exact Zlt l hl _ 0 rfl (Nat.zero_le _)
def asmO (r:D) (ob':Obs):QT:=fun d xs ob=>some (.ok (CallL Tryz.prog d xs ob fun r0 ob0=>r0=r/\ob0=ob') r ob')
theorem Z0R (r:D) (ob':Obs):(asmO r ob').OK:=by intro d xs ob rt h; cases h; exact fun hp=>hp
theorem Ziw (es:LD) (r:Int):let A:=[(0,oR false 1 3 es)];let B:=[dV 0,dF 142 [] []];gC (ctr libT (asmO (dI r) A)) 1 ZfS Zfd [] B [] A=(Ow (CF 179 B A fun r0 ob0=>r0=dI r/\ob0=A) (Rt (dB (decide ((0:Int)<=r))) A):Tr):=by intro A B;kernel_rfl
theorem ZmJ (l:List Int) (hl:l.length<=4611686018427387904):CF 141 [.vec 0,.func (.func 142) [] []] [(0,.arr false 1 3 (intC .i64 l))] fun r ob=>r= .bool (!l.all Zl)/\ob=[(0,.arr false 1 3 (intC .i64 l))]:=by
 refine CallL.tree Z4 Zm2 (Z2 Z1 (Z0R _ _)) (Ziw (intC .i64 l) (bigI l 0)) ?_
 simp only[SS]
 exact⟨Zls l hl,ZhC l 0 (by decide)⟩
def eXY (x y:Int):Nat->Int->List D:=fun _ n=>if n=0 then [.int .i64 x] else [.int .i64 y]
theorem Zdb (s:LU) (b:Bool) (o:Option Int) (es:LD) (x y:Int):let A:=[(0,oR false 1 3 es)];let B:=(↑(List.length es):Int);let C:=(D.tuple [dI (Option.getD o (0:Int)),dB (Option.isSome o)]);let E:=(Rt (D.tuple [dI (0:Int),dB false]) A);let F:=[(45:UInt8)];let G:=((0:Int)-x);gC (ctr (PT.or fitP (asmP (resT o))) (asmO (dB b) A) (eXY x y)) 1 Zg1 Zfm [] [dS s,dV 0] [] A=(Ow (CF 141 [dV 0,dF 142 [] []] A fun r0 ob0=>r0=dB b/\ob0=A) (brT (!b) (brT (decide (B=(1:Int))) (Ow ((0:Int)<=(0:Int)/\(0:Int)<B) (Ow (es[0]? = some [dI x]) (I8 G (Ow True (Ow (((-9223372036854775808:Int)<=G*if s=F then (1:Int) else (0:Int))/\(G*if s=F then (1:Int) else (0:Int))<=(9223372036854775807:Int)) (Rt (D.tuple [dI (G*if s=F then (1:Int) else (0:Int)),dB (decide (s=F))]) A)))))) (brT (decide (B=(2:Int))) (Ow ((0:Int)<=(0:Int)/\(0:Int)<B) (Ow (es[0]? = some [dI x]) (Ow ((0:Int)<=(1:Int)/\(1:Int)<B) (Ow (es[1]? = some [dI y]) (Ow (FK 145 [dS s,dI x,dI y] C) (Rt C A)))))) E)) E):Tr):=by intro A B C E F G;kernel_rfl
theorem Zax {s:LU} {l:List Int} (h:l.all Zl=false):QU s l=none:=by
 unfold QU
 rw[if_neg (by simp[h])]
theorem Zay (s:LU) (l:List Int) (hl:l.length<=4611686018427387904):CF 119 [.str s,.vec 0] [(0,.arr false 1 3 (intC .i64 l))] fun r ob=>r=resT (QU s l)/\ob=[(0,.arr false 1 3 (intC .i64 l))]:=by
 refine CallL.tree Z4 Zmd (Z2 (PT.or_ok Z5K (Zn _)) (Z0R _ _)) (Zdb s (!l.all Zl) (fitO (Z2z s (l.getD 0 0) (l.getD 1 0))) (intC .i64 l) (l.getD 0 0) (l.getD 1 0)) ?_
 simp only[SS,ZB]
 refine⟨ZmJ l hl,fun hb=>⟨fun h1=> ?_,fun h1=>⟨fun h2=> ?_,fun h2=> ?_⟩⟩,fun hb=>by rw[Zax hb]; rfl⟩
 ·match l,h1,hb with
  | [a],_,hb =>
   have ha:=Zr.1 (show Zl a=true by simpa using hb)
   refine⟨by simp,rfl,by simp only[List.getD_cons_zero]; omega,by simp only[List.getD_cons_zero]; split <;> omega, ?_⟩
   simp only[QU,hb,if_true,List.getD_cons_zero]
   by_cases hs:s=[45]
   ·simp[hs,resT]
   ·simp[hs,resT]
 ·match l,h2,hb with
  | [a,b],_,hb =>
   have hab:Zl a=true/\Zl b=true:=by simpa using hb
   refine⟨by simp,rfl,by simp,rfl, ?_, ?_⟩
   ·exact Zhx s a b hab.1 hab.2
   ·simp only[QU,hb,if_true]; rfl
 ·match l,h1,h2,hb with
  | [],_,_,_=>rfl
  | [a],h,_,_=>exact absurd rfl h
  | [a,b],_,h,_=>exact absurd rfl h
  | _::_::_::_,_,_,hb=>simp only[QU,hb,if_true]; rfl
end Go.Proofs.YtobgkdlghljdlaaGreatDoor
/- Small comparisons. -/
namespace Go.Proofs.YtobgkdlghljdlaaGreatDoor
open Go.Sx
def asmQ (r:D):QT:=fun d xs ob=>match ob with
 | []=>some (.ok (CallL Tryz.prog d xs [] fun r0 ob0=>r0=r/\ob0=[]) r [])
 | _=>none
theorem Z08 (r:D):(asmQ r).OK:=by
 intro d xs ob rt h
 unfold asmQ at h
 split at h
 ·cases h; exact fun hp=>hp
 ·cases h
theorem Zif (n:Int):gP (ctr libT) ZfU Zff [dI n]=(Rt (D.bool !decide (n=n)) []:Tr):=by kernel_rfl
theorem Zlg (n:Int):FK 130 [.int .i64 n] (.bool false):=by
 refine FnOK.tree Z4 Zm5 (Z2 Z1 Z0) (Zif n) ?_
 simp[Zc]
def nanP:PT:=fun f xs=>match xs with
 | [.int .i64 n]=>if f=130 then some (.ok True (.bool false) []) else none
 | _=>none
theorem Zgu:nanP.OK:=by
 intro f xs rt h
 unfold nanP at h
 split at h
 ·split at h
  ·rename_i hf; subst hf; cases h; exact fun _=>Zlg _
  ·cases h
 ·cases h
theorem ZiA (a b:Int):gP (ctr nanP) rs93 sc93 [dI a,dI b]=(Ow True (Ow True (brT (decide (a<b)) (Rt (dI (-1:Int)) []) (brT (decide (b<a)) (Rt (dI (1:Int)) []) (Rt (dI (0:Int)) [])))):Tr):=by kernel_rfl
theorem Zgt (a b:Int):FK 93 [.int .i64 a,.int .i64 b] (.int .i64 (ncmp a b)):=by
 refine FnOK.tree Z4 fp93 (Z2 Zgu Z0) (ZiA a b) ?_
 simp only[SS]
 refine⟨fun h=>by simp[ncmp,h],fun h=>⟨fun h2=> ?_,fun h2=> ?_⟩⟩
 ·simp[ncmp,h,h2]
 ·simp[ncmp,h,h2]
theorem Zim (es:LD) (k:Int):gP (ctr libT) Z93 Z5e [dL es [],dU k]=(Jm (cut Z5e 0) { tm:=[(0,dL es []),(1,dU k),(7,dI (↑(List.length es):Int)),(8,dI (0:Int))],ob:=[] }:Tr):=by kernel_rfl
def hdIx (es:LD) (k n i:Int):St:=⟨[(0,.slice es []),(1,.int .u8 k),(7,.int .i64 n),(8,.int .i64 i)],[]⟩
theorem Z7q (es:LD) (k n i c:Int):gH (ctr libT Qm (eOne [dU c])) 0 true Z93 (cut Z5e 0) (hdIx es k n i)=(brT (decide (i<n)) (Ow ((0:Int)<=i/\es[Int.toNat i]? = some [dU c]) (brT (decide (k=c)) (Rt (dI i) []) (I8 (i+(1:Int)) (Jm (cut Z5e 0) { tm:=[(0,dL es []),(1,dU k),(7,dI n),(8,dI (i+(1:Int)))],ob:=[] })))) (Rt (dI (-1:Int)) []):Tr):=by kernel_rfl
def ixF (k:Int):List Int->Int->Int
 | [],_=> -1
 | a::r,i=>if k=a then i else ixF k r (i+1)
theorem Zp1 (l:List Int) (k:Int) (hl:l.length<=4611686018427387904): ∀ (m i:Nat),l.length-i=m->i<=l.length →
  At Tryz.prog 0 (cut Z5e 0) (hdIx (intC .u8 l) k l.length i) (FinQ true 0 Z93 fun r _=>r= .int .i64 (ixF k (l.drop i) i)):=by
 intro m
 induction m with
 | zero =>
  intro i hm hi
  refine At.tree (Z2 Z1 Z0) (Z7q (intC .u8 l) k l.length i 0) ?_
  rw[List.drop_eq_nil_of_le (by omega)]
  simp only[SS]
  exact⟨fun h=>by omega,fun _=>rfl⟩
 | succ m ih =>
  intro i hm hi
  have h1:i<l.length:=by omega
  refine At.tree (Z2 Z1 Z0) (Z7q (intC .u8 l) k l.length i l[i]) ?_
  rw[Za h1]
  simp only[SS,ixF]
  refine⟨fun _=>⟨⟨by omega,Z00 h1⟩,fun h=>by rw[if_pos h],fun h=>⟨by omega, ?_⟩⟩,fun h=>by omega⟩
  rw[if_neg h]; exact ih (i+1) (by omega) (by omega)
theorem ZlB (k:Int):FK 131 [.slice [[.int .u8 1],[.int .u8 2],[.int .u8 4],[.int .u8 3],[.int .u8 5],[.int .u8 6]] [],.int .u8 k] (.int .i64 (idxI k)):=by
 have h:=Zp1 [1,2,4,3,5,6] k (by decide) _ 0 rfl (Nat.zero_le _)
 exact FnOK.tree Z4 Zm4 (Z2 Z1 Z0) (Zim _ k) h
def idxP:PT:=fun f xs=>match xs with
 | [.slice [[.int .u8 1],[.int .u8 2],[.int .u8 4],[.int .u8 3],[.int .u8 5],[.int .u8 6]] [],.int .u8 k]=>if f=131 then some (.ok True (.int .i64 (idxI k)) []) else none
 | _=>none
theorem ZgP:idxP.OK:=by
 intro f xs rt h
 unfold idxP at h
 split at h
 ·split at h
  ·rename_i hf; subst hf; cases h; exact fun _=>ZlB _
  ·cases h
 ·cases h
theorem Zd9 (k:Int):let A:=((↑(6:Nat):Int)+k);gP (ctr idxP) rs94 sc94 [dU k]=(Ow True (brT (decide ((0:Int)<=idxI k)) (Rt (dI (idxI k)) []) (I8 k (I8 A (Rt (dI A) [])))):Tr):=by intro A;kernel_rfl
theorem Zge (k:Int) (hk:0<=k/\k<=255):FK 94 [.int .u8 k] (.int .i64 (rkI k)):=by
 refine FnOK.tree Z4 fp94 (Z2 ZgP Z0) (Zd9 k) ?_
 simp only[SS]
 unfold idxI rkI
 refine⟨fun h=> ?_,fun h=>⟨by omega,⟨by omega, ?_⟩⟩⟩
 ·(repeat' split) <;> first | rfl | (split at h <;> omega) | (simp_all; done)
 ·(repeat' split) <;> first | omega | (simp_all; done)
theorem ZnC (es:LD):gP (ctr libT) rs95 sc95 [dL es []]=(Jm (cut sc95 0) { tm:=[(3,dI (0:Int)),(6,dL es []),(7,dI (↑(List.length es):Int)),(8,dI (0:Int))],ob:=[] }:Tr):=by kernel_rfl
def hdOr (es:LD) (n i:Int):St:=⟨[(3,.int .i64 0),(6,.slice es []),(7,.int .i64 n),(8,.int .i64 i)],[]⟩
theorem ZaT (es:LD) (n i c:Int):gH (ctr libT Qm (eOne [dI c])) 0 true rs95 (cut sc95 0) (hdOr es n i)=(brT (decide (i<n)) (Ow ((0:Int)<=i/\es[Int.toNat i]? = some [dI c]) (brT (!decide (c=(0:Int))) (Rt (dI c) []) (I8 (i+(1:Int)) (Jm (cut sc95 0) { tm:=[(3,dI (0:Int)),(6,dL es []),(7,dI n),(8,dI (i+(1:Int)))],ob:=[] })))) (Rt (dI (0:Int)) []):Tr):=by kernel_rfl
theorem ZoW (l:List Int) (hl:l.length<=4611686018427387904): ∀ (m i:Nat),l.length-i=m->i<=l.length →
  At Tryz.prog 0 (cut sc95 0) (hdOr (intC .i64 l) l.length i) (FinQ true 0 rs95 fun r _=>r= .int .i64 (fst0 (l.drop i))):=by
 intro m
 induction m with
 | zero =>
  intro i hm hi
  refine At.tree (Z2 Z1 Z0) (ZaT (intC .i64 l) l.length i 0) ?_
  rw[List.drop_eq_nil_of_le (by omega)]
  simp only[SS]
  exact⟨fun h=>by omega,fun _=>rfl⟩
 | succ m ih =>
  intro i hm hi
  have h1:i<l.length:=by omega
  refine At.tree (Z2 Z1 Z0) (ZaT (intC .i64 l) l.length i l[i]) ?_
  rw[Za h1]
  simp only[SS,fst0]
  refine⟨fun _=>⟨⟨by omega,Z00 h1⟩,fun h=>by rw[if_pos h],fun h=>⟨by omega, ?_⟩⟩,fun h=>by omega⟩
  rw[if_neg (by simpa using h)]; exact ih (i+1) (by omega) (by omega)
theorem or_ok (a b c d:Int):FK 95 [.slice [[.int .i64 a],[.int .i64 b],[.int .i64 c],[.int .i64 d]] []] (.int .i64 (fst0 [a,b,c,d])):=by
 have h:=ZoW [a,b,c,d] (by simp) _ 0 rfl (Nat.zero_le _)
 exact FnOK.tree Z4 fp95 (Z2 Z1 Z0) (ZnC _) h
end Go.Proofs.YtobgkdlghljdlaaGreatDoor
/- term.Compare. -/
namespace Go.Proofs.YtobgkdlghljdlaaGreatDoor
open Go.Sx
theorem Zh {l:List Tm} {i:Nat} (h:i<l.length):(Tm.cellsL l)[i]? = some l[i].cells:=by rw[Zs]; simp[h]
theorem Z4b {B:Nat} {l:List Tm} (h:Tm.wfL B l) {t:Tm} (ht:t∈l):t.wf B:=QW.1 h t ht
def eTwo (t0:Nat) (c d:List D):Nat->Int->List D:=fun t _=>if t=t0 then c else d
theorem ZnG (es fs e e':LD):gC (ctr libT) 0 rs97 sc97 [] [dL es e,dL fs e',dF 58 [] []] [] []=(Jm (cut sc97 0) { tm:=[(0,dL es e),(1,dL fs e'),(2,dF 58 [] []),(11,dL es e),(12,dI (↑(List.length es):Int)),(13,dI (0:Int))],ob:=[] }:Tr):=by kernel_rfl
def hdCF (es fs e e':LD) (n i:Int):St:=⟨[(0,.slice es e),(1,.slice fs e'),(2,.func (.func 58) [] []),(11,.slice es e),(12,.int .i64 n),(13,.int .i64 i)],[]⟩
theorem Z61 (es fs e e':LD) (m i k n:Int) (s:LU) (a:LD) (k' n':Int) (s':LU) (a':LD) (c:Int):let A:=[dU k',dI n',dS s',dL a' []];let B:=[dU k,dI n,dS s,dL a []];let C:=(↑(List.length fs):Int);let E:=cut sc97 0;let F:=(i+(1:Int));gH (ctr libT (asmQ (dI c)) (eTwo 16 B A)) 0 false rs97 E (hdCF es fs e e' m i)=(brT (decide (i<m)) (Ow ((0:Int)<=i/\es[Int.toNat i]? = some B) (brT (decide (C<=i)) (Rt (dI (1:Int)) []) (Ow ((0:Int)<=i/\fs[Int.toNat i]? = some A) (Ow (CF 58 [dA B,dA A] [] fun r0 ob0=>r0=dI c/\ob0=[]) (brT (!decide (c=(0:Int))) (Rt (dI c) []) (I8 F (Jm E { tm:=[(0,dL es e),(1,dL fs e'),(2,dF 58 [] []),(11,dL es e),(12,dI m),(13,dI F)],ob:=[] }))))))) (brT (decide ((↑(List.length es):Int)<C)) (Rt (dI (-1:Int)) []) (Rt (dI (0:Int)) [])):Tr):=by intro A B C E F;kernel_rfl
def CmpC (x y:Tm):Prop:=CF 58 [.agg x.cells,.agg y.cells] [] fun r ob=>r= .int .i64 (x.cmp y)/\ob=[]
theorem Zq2 (e e':LD) (l q:List Tm) (hl:l.length<=281474976710656) (hq:q.length<=281474976710656) (H: ∀ x∈l, ∀ y∈q,CmpC x y): ∀ (m i:Nat),l.length-i=m->i<=l.length->i<=q.length →
  At Tryz.prog 0 (cut sc97 0) (hdCF (Tm.cellsL l) (Tm.cellsL q) e e' l.length i) (FinQ false 0 rs97 fun r ob=>r= .int .i64 (Tm.cmpL (l.drop i) (q.drop i))/\ob=[]):=by
 intro m
 induction m with
 | zero =>
  intro i hm hi hiq
  refine At.tree (Z2 Z1 (Z08 (.int .i64 0))) (Z61 (Tm.cellsL l) (Tm.cellsL q) e e' l.length i 0 0 [] [] 0 0 [] [] 0) ?_
  rw[List.drop_eq_nil_of_le (by omega)]
  simp only[SS,Z3]
  refine⟨fun h=>by omega,fun _=>⟨fun h=> ?_,fun h=> ?_⟩⟩
  ·rw[Za (show i<q.length by omega)]; rfl
  ·rw[List.drop_eq_nil_of_le (by omega)]; rfl
 | succ m ih =>
  intro i hm hi hiq
  have h1:i<l.length:=by omega
  have hx:=Zh h1
  have hmx:l[i]∈l:=List.getElem_mem h1
  have hd:=Za h1
  by_cases h2:i<q.length
  ·have hy:=Zh h2
   have hC:=H _ hmx _ (List.getElem_mem h2)
   rw[hd,Za h2]
   simp only[Tm.cmpL]
   unfold CmpC at hC
   generalize hc:Tm.cmp l[i] q[i]=c at hC ⊢
   generalize l[i]=x at hx hC
   generalize q[i]=y at hy hC
   obtain⟨k,n,s,a⟩:=x
   obtain⟨k',n',s',a'⟩:=y
   refine At.tree (Z2 Z1 (Z08 (.int .i64 c))) (Z61 (Tm.cellsL l) (Tm.cellsL q) e e' l.length i k n s (Tm.cellsL a) k' n' s' (Tm.cellsL a') c) ?_
   simp only[SS,Z3]
   refine⟨fun _=>⟨⟨by omega,hx⟩,fun h=>by omega,fun _=>⟨⟨by omega,hy⟩,hC,fun h=>by rw[if_pos h],fun h=>⟨by omega, ?_⟩⟩⟩,fun h=>by omega⟩
   rw[if_neg (by simpa using h)]
   exact ih (i+1) (by omega) (by omega) (by omega)
  ·rw[hd,List.drop_eq_nil_of_le (show q.length<=i by omega)]
   generalize l[i]=x at hx
   obtain⟨k,n,s,a⟩:=x
   refine At.tree (Z2 Z1 (Z08 (.int .i64 0))) (Z61 (Tm.cellsL l) (Tm.cellsL q) e e' l.length i k n s (Tm.cellsL a) 0 0 [] [] 0) ?_
   simp only[SS,Z3]
   exact⟨fun _=>⟨⟨by omega,hx⟩,fun _=>rfl,fun h=>by omega⟩,fun h=>by omega⟩
theorem ZmY (e e':LD) (l q:List Tm) (hl:l.length<=281474976710656) (hq:q.length<=281474976710656) (H: ∀ x∈l, ∀ y∈q,CmpC x y):CF 97 [.slice (Tm.cellsL l) e,.slice (Tm.cellsL q) e',.func (.func 58) [] []] [] fun r ob=>r= .int .i64 (Tm.cmpL l q)/\ob=[]:=by
 refine CallL.tree Z4 fp97 (Z2 Z1 Z0) (ZnG (Tm.cellsL l) (Tm.cellsL q) e e') ?_
 simp only[SS,Z3]
 exact Zq2 e e' l q hl hq H _ 0 rfl (Nat.zero_le _) (Nat.zero_le _)
def Zht:PT:=fun f xs=>match xs with
 | [.int .u8 k]=>if f=94 then some (.ok (0<=k/\k<=255) (.int .i64 (rkI k)) []) else none
 | [.int .i64 a,.int .i64 b]=>if f=93 then some (.ok True (.int .i64 (ncmp a b)) []) else none
 | [.slice [[.int .i64 a],[.int .i64 b],[.int .i64 c],[.int .i64 d]] []]=>if f=95 then some (.ok True (.int .i64 (fst0 [a,b,c,d])) []) else none
 | xs=>libT f xs
theorem Z7d:Zht.OK:=by
 intro f xs rt h
 unfold Zht at h
 split at h
 ·split at h
  ·rename_i hf; subst hf; cases h; exact fun hk=>Zge _ hk
  ·cases h
 ·split at h
  ·rename_i hf; subst hf; cases h; exact fun _=>Zgt _ _
  ·cases h
 ·split at h
  ·rename_i hf; subst hf; cases h; exact fun _=>or_ok _ _ _ _
  ·cases h
 ·exact Z1 _ _ _ h
theorem Zed (k n:Int) (s:LU) (a:LD) (k' n':Int) (s':LU) (a':LD) (c:Int) (e e':LD):let A:=(Ow True (Ow True (Rt (dI (fst0 [ncmp (↑(List.length a):Int) (↑(List.length a'):Int),Lib.compareBytes s s',c,ncmp n n'])) [])));let B:=[dL a e,dL a' e',dF 58 [] []];gC (ctr Zht (asmQ (dI c))) 0 rs58 sc58 [] [dA [dU k,dI n,dS s,dL a e],dA [dU k',dI n',dS s',dL a' e']] [] []=(Ow ((0:Int)<=k/\k<=(255:Int)) (Ow ((0:Int)<=k'/\k'<=(255:Int)) (Ow True (brT (!decide (ncmp (rkI k) (rkI k')=(0:Int))) (Rt (dI (ncmp (rkI k) (rkI k'))) []) (Ow True (brT (!decide (ncmp n n'=(0:Int))) (brT (decide (k=(1:Int))) (Rt (dI (ncmp n n')) []) (Ow True (Ow True (Ow (CF 97 B [] fun r0 ob0=>r0=dI c/\ob0=[]) A)))) (Ow True (Ow True (Ow (CF 97 B [] fun r0 ob0=>r0=dI c/\ob0=[]) A)))))))):Tr):=by intro A B;kernel_rfl
def Zav:Tm->LD->List D
 | .mk k n s l,e=>[.int .u8 (k:Int),.int .i64 n,.str s,.slice (Tm.cellsL l) e]
theorem Z0F (x:Tm):Zav x []=x.cells:=by cases x; rfl
theorem Z7a: ∀ (x y:Tm) (e e':LD),x.wf 281474976710656->y.wf 281474976710656->CF 58 [.agg (Zav x e),.agg (Zav y e')] [] fun r ob=>r= .int .i64 (x.cmp y)/\ob=[]
 | .mk k n s l,.mk k' n' s' l',e,e',hx,hy=>by
  simp only[Tm.wf] at hx hy
  obtain⟨hk,hn1,hn2,hs,hl,hw⟩:=hx
  obtain⟨hk',hn1',hn2',hs',hl',hw'⟩:=hy
  have hC:=ZmY e e' l l' hl hl' fun x hx y hy=>by
   have:=Z7a x y [] [] (Z4b hw hx) (Z4b hw' hy)
   rw[Z0F,Z0F] at this
   exact this
  refine CallL.tree Z4 fp58 (Z2 Z7d (Z08 (.int .i64 (Tm.cmpL l l')))) (Zed k n s (Tm.cellsL l) k' n' s' (Tm.cellsL l') (Tm.cmpL l l') e e') ?_
  simp only[SS,Z3,Tm.cmp,fst0]
  have e1:((k:Int)=1)=(k=1):=propext (by omega)
  simp only[e1]
  refine⟨by omega,by omega,fun h=>by rw[if_pos h],fun h=>⟨fun h2=>⟨fun h3=> ?_,fun h3=>⟨hC, ?_⟩⟩,fun h2=>⟨hC, ?_⟩⟩⟩
  ·subst h3
   have h':ncmp (rkI 1) (rkI k')=0:=h
   simp[h',h2]
  ·simp[h,h2,h3]
  ·simp[h,h2]
termination_by x=>SizeOf.sizeOf x
decreasing_by
 have:=List.sizeOf_lt_of_mem hx
 simp only[Tm.mk.sizeOf_spec]
 omega
theorem ZcQ (x y:Tm) (hx:x.wf 281474976710656) (hy:y.wf 281474976710656):CmpC x y:=by
 have:=Z7a x y [] [] hx hy
 rw[Z0F,Z0F] at this
 exact this
end Go.Proofs.YtobgkdlghljdlaaGreatDoor
/- Equality,sizes. -/
namespace Go.Proofs.YtobgkdlghljdlaaGreatDoor
open Go.Sx
theorem Zny (k n:Int) (s:LU) (a:LD) (m c:Int):gP (ctr (asmP (dI c))) rs34 sc34 [dA [dU k,dI n,dS s,dL a []],dI m]=(I8 (m-(1:Int)) (Ow (FK 33 [dL a [],dI (m-(1:Int))] (dI c)) (I8 ((1:Int)+c) (Rt (dI ((1:Int)+c)) []))):Tr):=by kernel_rfl
theorem Zi0 (a:LD) (m:Int):gP (ctr libT) rs33 sc33 [dL a [],dI m]=(Jm (cut sc33 0) { tm:=[(0,dL a []),(1,dI m),(5,dI (0:Int)),(6,dI (0:Int))],ob:=[] }:Tr):=by kernel_rfl
def hdSz (a:LD) (m n i:Int):St:=⟨[(0,.slice a []),(1,.int .i64 m),(5,.int .i64 n),(6,.int .i64 i)],[]⟩
theorem Z4a (a:LD) (m n i kx nx:Int) (sx:LU) (ax:LD) (c:Int):let A:=[dU kx,dI nx,dS sx,dL ax []];let B:=Rt (dI n) [];let C:=cut sc33 0;let E:=(i+(1:Int));gH (ctr (asmP (dI c)) Qm (eOne A)) 0 true rs33 C (hdSz a m n i)=(brT (decide (i<(↑(List.length a):Int))) (brT (decide (n<=m)) (Ow ((0:Int)<=i/\a[Int.toNat i]? = some A) (I8 (m-n) (Ow (FK 34 [dA A,dI (m-n)] (dI c)) (I8 (n+c) (I8 E (Jm C { tm:=[(0,dL a []),(1,dI m),(5,dI (n+c)),(6,dI E)],ob:=[] })))))) B) B:Tr):=by intro A B C E;kernel_rfl
theorem ZnF (k n:Int) (s:LU) (a:LD) (k' n':Int) (s':LU) (a':LD) (c:Int):let A:=[dA [dU k,dI n,dS s,dL a []],dA [dU k',dI n',dS s',dL a' []]];gP (ctr (asmP (dI c))) rs27 sc27 A=(Ow (FK 58 A (dI c)) (Rt (dB (decide (c=(0:Int)))) []):Tr):=by intro A;kernel_rfl
def SzP (x:Tm):Prop:= ∀ m:Int,0<=m->m<=1000000->FK 34 [.agg x.cells,.int .i64 m] (.int .i64 (x.sz m))
theorem Zjm (l:List Tm) (hl:l.length<=281474976710656) (H: ∀ x∈l,SzP x) (M:Int) (hM: -1<=M/\M<=1000000): ∀ (m i:Nat) (n:Int),l.length-i=m->i<=l.length->0<=n->n<=M+1 →
  At Tryz.prog 0 (cut sc33 0) (hdSz (Tm.cellsL l) M n i) (FinQ true 0 rs33 fun r _=>r= .int .i64 (Tm.szL (l.drop i) M n)):=by
 intro m
 induction m with
 | zero =>
  intro i n hm hi hn hn2
  refine At.tree (Z2 (Zn (.int .i64 0)) Z0) (Z4a (Tm.cellsL l) M n i 0 0 [] [] 0) ?_
  rw[List.drop_eq_nil_of_le (show l.length<=i by omega)]
  simp only[SS,Z3]
  exact⟨fun h=>by omega,fun _=>rfl⟩
 | succ m ih =>
  intro i n hm hi hn hn2
  have h1:i<l.length:=by omega
  have hx:=Zh h1
  have hC:=H _ (List.getElem_mem h1)
  rw[Za h1]
  simp only[Tm.szL]
  by_cases hnm:n<=M
  ·rw[if_pos hnm]
   have hC2:=hC (M-n) (by omega) (by omega)
   have hge:=Z57 l[i] (M-n)
   have hle:=ZeS l[i] (M-n) (by omega)
   have hI:=ih (i+1) (n+Tm.sz l[i] (M-n)) (by omega) (by omega) (by omega) (by omega)
   generalize Tm.sz l[i] (M-n)=c at hC2 hI hge hle ⊢
   generalize l[i]=x at hx hC2
   obtain⟨kx,nx,sx,ax⟩:=x
   refine At.tree (Z2 (Zn (.int .i64 c)) Z0) (Z4a (Tm.cellsL l) M n i kx nx sx (Tm.cellsL ax) c) ?_
   simp only[SS,Z3]
   exact⟨fun _=>⟨fun _=>⟨⟨by omega,hx⟩,by omega,hC2,by omega,by omega,hI⟩,fun h=>by omega⟩,fun h=>by omega⟩
  ·rw[if_neg hnm]
   refine At.tree (Z2 (Zn (.int .i64 0)) Z0) (Z4a (Tm.cellsL l) M n i 0 0 [] [] 0) ?_
   simp only[SS,Z3]
   exact⟨fun _=>⟨fun h=>by omega,fun _=>trivial⟩,fun h=>by omega⟩
theorem Zdo (l:List Tm) (hl:l.length<=281474976710656) (H: ∀ x∈l,SzP x) (M:Int) (hM: -1<=M/\M<=1000000):FK 33 [.slice (Tm.cellsL l) [],.int .i64 M] (.int .i64 (Tm.szL l M 0)) :=
 FnOK.tree Z4 fp33 (Z2 Z1 Z0) (Zi0 (Tm.cellsL l) M) (Zjm l hl H M hM _ 0 0 rfl (Nat.zero_le _) (by omega) (by omega))
theorem ZeR: ∀ (x:Tm),x.wf 281474976710656->SzP x
 | .mk k n s l,hx=>by
  simp only[Tm.wf] at hx
  obtain⟨hk,hn1,hn2,hs,hl,hw⟩:=hx
  intro m h0 h1
  have hC:=Zdo l hl (fun x hx=>ZeR x (Z4b hw hx)) (m-1) (by omega)
  have hge:=Z1V l (m-1) 0
  have hle:=Z8D l (m-1) 0 (by omega)
  refine FnOK.tree Z4 fp34 (Z2 (Zn (.int .i64 (Tm.szL l (m-1) 0))) Z0) (Zny k n s (Tm.cellsL l) m (Tm.szL l (m-1) 0)) ?_
  simp only[SS]
  exact⟨by omega,hC,by omega,rfl⟩
termination_by x=>SizeOf.sizeOf x
decreasing_by
 have:=List.sizeOf_lt_of_mem hx
 simp only[Tm.mk.sizeOf_spec]
 omega
theorem Zl2:Zz Tryz.prog 58=true:=by kernel_rfl
theorem ZmT (x y:Tm) (hx:x.wf 281474976710656) (hy:y.wf 281474976710656):FK 58 [.agg x.cells,.agg y.cells] (.int .i64 (x.cmp y)) :=
 FnOK.of_call Zl2 ((ZcQ x y hx hy).mono fun r ob ⟨h1,h2⟩=>by subst h1; subst h2; exact .inr ⟨rfl,rfl⟩)
theorem Z3X (x y:Tm) (hx:x.wf 281474976710656) (hy:y.wf 281474976710656):FK 27 [.agg x.cells,.agg y.cells] (.bool (x.eqb y)):=by
 have hC:=ZmT x y hx hy
 rw[Zhh]
 generalize x.cmp y=c at hC ⊢
 obtain⟨k,n,s,l⟩:=x
 obtain⟨k',n',s',l'⟩:=y
 refine FnOK.tree Z4 fp27 (Z2 (Zn (.int .i64 c)) Z0) (ZnF k n s (Tm.cellsL l) k' n' s' (Tm.cellsL l') c) ?_
 simp only[SS]
 exact hC
def sCtr (l:List (Nat × D)):Ctr:=⟨fun t f az=>match lk l t with | some r=>some (.ok (FK f az r) r []) | none=>none,fun _=>Qm,noE⟩
theorem Z8T (l:List (Nat × D)):(sCtr l).OK Tryz.prog:=by
 refine⟨fun t f az rt h=> ?_,fun _=>Z0⟩
 simp only[sCtr] at h
 split at h
 ·cases h; exact fun hp=>hp
 ·cases h
end Go.Proofs.YtobgkdlghljdlaaGreatDoor
