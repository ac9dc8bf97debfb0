/- Own work: a layer over the kit: plain data,a walk over it,its soundness. -/
import Derived.Test.YtaclfbhhekhflaaGreatDoorLibT
import Derived.Test.YtaclfbhhekhflaaGreatDoorSx8
set_option linter.all false
set_option maxRecDepth 100000
/- arith.Calc. -/
noncomputable section
namespace Go.Proofs.YtaclfbhhekhflaaGreatDoor
open Go.Sx
theorem ZmP (n:Int):gP (ctr libT) Zk1 Zja [dI n]=(brT (decide ((-2147483647:Int)<=n)) (Rt (dB (decide (n<=(2147483647:Int)))) []) (Rt (dB false) []):Tr):=by kernel_rfl
theorem ZrA (n:Int):FK 180 [.int .i64 n] (.bool (Zu n)):=by
 refine FnOK.tree Z3 ZqV (Z2 Z1 Z0) (ZmP n) ?_;simp only[SS,Zu];exact⟨λh=>by simp[h],λh=>by simp[h]⟩
theorem Zh8 (s:LU):gP (ctr libT) Zk0 Zj9 [dS s]=(brT (decide (s=[(45:UInt8)])) (Rt (dI 1) []) (Rt (dI 0) []):Tr):=by kernel_rfl
theorem Zod (s:LU):FK 181 [.str s] (.int .i64 (if s=[45] then 1 else 0)):=by
 refine FnOK.tree Z3 ZqU (Z2 Z1 Z0) (Zh8 s) ?_;simp only[SS];exact⟨λh=>by rw[if_pos h],λh=>by rw[if_neg h]⟩
abbrev abO (a b:Int):Obs:=[(0,.cells [.int .i64 a]),(1,.cells [.int .i64 b])]
theorem ZsC (a b:Int):let A:=[(0,oC [dI a]),(1,oC [dI b])];gC (ctr libT) 2 ZjV Zj4 [] [] [dP 0 0,dP 1 0] A=(I8 (a+b) (Rt (dI (a+b)) A):Tr):=by intro A;kernel_rfl
theorem ZsB (a b:Int):let A:=[(0,oC [dI a]),(1,oC [dI b])];gC (ctr libT) 2 ZjU Zj3 [] [] [dP 0 0,dP 1 0] A=(I8 (a-b) (Rt (dI (a-b)) A):Tr):=by intro A;kernel_rfl
theorem ZsA (a b:Int):let A:=[(0,oC [dI a]),(1,oC [dI b])];gC (ctr libT) 2 ZjT Zj2 [] [] [dP 0 0,dP 1 0] A=(I8 (a*b) (Rt (dI (a*b)) A):Tr):=by intro A;kernel_rfl
theorem Zsz (a b:Int):let A:=[(0,oC [dI a]),(1,oC [dI b])];let B:=Int.tdiv a b;gC (ctr libT) 2 ZjS Zj1 [] [] [dP 0 0,dP 1 0] A=(Ow (b≠(0:Int)) (I8 B (Rt (dI B) A)):Tr):=by intro A B;kernel_rfl
theorem Zsy (a b:Int):let A:=[(0,oC [dI a]),(1,oC [dI b])];gC (ctr libT) 2 ZjR Zj0 [] [] [dP 0 0,dP 1 0] A=(Ow (b≠(0:Int)) (Rt (dI (Int.tmod a b)) A):Tr):=by intro A;kernel_rfl
def ClC (f:FuncId) (a b r:Int):Prop:=CallL Tryz.prog (.func (.func f) [] [.ptr 0 0,.ptr 1 0]) [] (abO a b) λr0 ob0=>r0=.int .i64 r/\ob0=abO a b
theorem Zs5 (a b:Int) (ha:Zu a=true) (c:Zu b=true):ClC 209 a b (a+b):=by
 rw[ZD] at ha c;refine CallL.tree Z3 ZqM (Z2 Z1 Z0) (ZsC a b) ?_;simp only[SS];omega
theorem Zs4 (a b:Int) (ha:Zu a=true) (c:Zu b=true):ClC 210 a b (a-b):=by
 rw[ZD] at ha c;refine CallL.tree Z3 ZqL (Z2 Z1 Z0) (ZsB a b) ?_;simp only[SS];omega
theorem Zs3 (a b:Int) (ha:Zu a=true) (c:Zu b=true):ClC 211 a b (a*b):=by
 have:=ZkK ha c;refine CallL.tree Z3 ZqK (Z2 Z1 Z0) (ZsA a b) ?_;simp only[SS];omega
theorem Zvq (a b:Int) (ha:Zu a=true) (c:b≠0):ClC 212 a b (a.tdiv b):=by
 have:=ZD.1 (Zfs (b:=b) ha);refine CallL.tree Z3 ZqJ (Z2 Z1 Z0) (Zsz a b) ?_;simp only[SS];exact⟨c,by omega⟩
theorem Zvp (a b:Int) (ha:Zu a=true) (c:b≠0):ClC 213 a b (a.tmod b):=by
 refine CallL.tree Z3 ZqI (Z2 Z1 Z0) (Zsy a b) ?_;simp only[SS];exact c
def clQ:QT:=λd xs ob=>match d,xs,ob with
 |.func (.func f) [] [.ptr 0 0,.ptr 1 0],[],[(0,.cells [.int .i64 a]),(1,.cells [.int .i64 b])] =>
  if f=209 then some (.ok (ClC 209 a b (a+b)) (.int .i64 (a+b)) (abO a b))
  else if f=210 then some (.ok (ClC 210 a b (a-b)) (.int .i64 (a-b)) (abO a b))
  else if f=211 then some (.ok (ClC 211 a b (a*b)) (.int .i64 (a*b)) (abO a b))
  else if f=212 then some (.ok (ClC 212 a b (a.tdiv b)) (.int .i64 (a.tdiv b)) (abO a b))
  else if f=213 then some (.ok (ClC 213 a b (a.tmod b)) (.int .i64 (a.tmod b)) (abO a b))
  else none
 |_,_,_=>none
theorem ZrX:clQ.OK:=by
 intro d xs ob rt h;unfold clQ at h;split at h
 ·split at h
  ·rename_i hf;subst hf;cases h;exactλhp=>hp
  split at h
  ·rename_i hf;subst hf;cases h;exactλhp=>hp
  split at h
  ·rename_i hf;subst hf;cases h;exactλhp=>hp
  split at h
  ·rename_i hf;subst hf;cases h;exactλhp=>hp
  split at h
  ·rename_i hf;subst hf;cases h;exactλhp=>hp
  ·cases h
 ·cases h
def fitP:PT:=λf xs=>match xs with
 |[.int .i64 n]=>if f=180 then some (.ok True (.bool (Zu n)) []) else none
 |[.str s]=>if f=181 then some (.ok True (.int .i64 (if s=[45] then 1 else 0)) []) else none
 |_=>none
theorem Z8f:fitP.OK:=by
 intro f xs rt h;unfold fitP at h;split at h
 ·split at h
  ·rename_i hf;subst hf;cases h;exactλ_=>ZrA _
  ·cases h
 ·split at h
  ·rename_i hf;subst hf;cases h;exactλ_=>Zod _
  ·cases h
 ·cases h
theorem Zha (s:LU) (a b:Int):let A:=Rt (D.tuple [dI 0,dB false]) [];let B:=Int.tdiv a b;let C:=Int.tmod a b;let E:=[(47:UInt8)];let F:=[(92:UInt8)];let G:=Rt (D.tuple [dI (a+b),dB true]) [];let H:=Rt (D.tuple [dI (a-b),dB true]) [];let I:=Rt (D.tuple [dI (a*b),dB true]) [];let J:=Rt (D.tuple [dI B,dB true]) [];let K:=Rt (D.tuple [dI C,dB true]) [];let L:=ClC 209 a b (a+b);let M:=ClC 210 a b (a-b);let N:=ClC 211 a b (a*b);let O:=ClC 212 a b B;let P:=ClC 213 a b C;gP (ctr fitP clQ) ZjZ Zj8 [dS s,dI a,dI b]=(brT (decide (s=[(43:UInt8)])) (brT (decide (b=(0:Int))) (brT (decide (s=E)) A (brT (decide (s=F)) A (Ow L (Ow True (brT (!Zu (a+b)) A G))))) (Ow L (Ow True (brT (!Zu (a+b)) A G)))) (brT (decide (s=[(45:UInt8)])) (brT (decide (b=(0:Int))) (brT (decide (s=E)) A (brT (decide (s=F)) A (Ow M (Ow True (brT (!Zu (a-b)) A H))))) (Ow M (Ow True (brT (!Zu (a-b)) A H)))) (brT (decide (s=[(42:UInt8)])) (brT (decide (b=(0:Int))) (brT (decide (s=E)) A (brT (decide (s=F)) A (Ow N (Ow True (brT (!Zu (a*b)) A I))))) (Ow N (Ow True (brT (!Zu (a*b)) A I)))) (brT (decide (s=E)) (brT (decide (b=(0:Int))) (brT (decide (s=E)) A (brT (decide (s=F)) A (Ow O (Ow True (brT (!Zu B) A J))))) (Ow O (Ow True (brT (!Zu B) A J)))) (brT (decide (s=F)) (brT (decide (b=(0:Int))) (brT (decide (s=E)) A (brT (decide (s=F)) A (Ow P (Ow True (brT (!Zu C) A K))))) (Ow P (Ow True (brT (!Zu C) A K)))) A)))):Tr):=by intro A B C E F G H I J K L M N O P;kernel_rfl
theorem Z6H (v:Int):(Zu v=false->D.tuple [.int .i64 0,.bool false]=resT (fitO (some v)))/\(Zu v=true->D.tuple [.int .i64 v,.bool true]=resT (fitO (some v))) :=
 ⟨λh=>by simp[fitO,resT,h],λh=>by simp[fitO,resT,h]⟩
theorem ZlM (s:LU) (a b:Int) (ha:Zu a=true) (c:Zu b=true):FK 182 [.str s,.int .i64 a,.int .i64 b] (resT (fitO (Z4k s a b))):=by
 refine FnOK.tree Z3 ZqT (Z2 Z8f ZrX) (Zha s a b) ?_;simp only[SS];refine⟨λh=>?_,λh=>⟨λh2=>?_,λh2=>⟨λd=>?_,λd=>⟨λf=>?_,λf=>⟨λg=>?_,λg=>?_⟩⟩⟩⟩⟩
 ·subst h;have e:Z4k [43] a b=some (a+b):=rfl;rw[e];exact⟨λ_=>⟨λh=>absurd h (by decide),λ_=>⟨λh=>absurd h (by decide),λ_=>⟨Zs5 a b ha c,Z6H _⟩⟩⟩,λ_=>⟨Zs5 a b ha c,Z6H _⟩⟩
 ·subst h2;have e:Z4k [45] a b=some (a-b):=rfl;rw[e];exact⟨λ_=>⟨λh=>absurd h (by decide),λ_=>⟨λh=>absurd h (by decide),λ_=>⟨Zs4 a b ha c,Z6H _⟩⟩⟩,λ_=>⟨Zs4 a b ha c,Z6H _⟩⟩
 ·subst d;have e:Z4k [42] a b=some (a*b):=rfl;rw[e];exact⟨λ_=>⟨λh=>absurd h (by decide),λ_=>⟨λh=>absurd h (by decide),λ_=>⟨Zs3 a b ha c,Z6H _⟩⟩⟩,λ_=>⟨Zs3 a b ha c,Z6H _⟩⟩
 ·subst f;refine⟨λh=>?_,λh=>?_⟩
  ·subst h;exact⟨λ_=>rfl,λh=>absurd rfl h⟩
  ·have e:Z4k [47] a b=some (a.tdiv b):=by simp[Z4k,h]
   rw[e];exact⟨Zvq a b ha h,Z6H _⟩
 ·subst g;refine⟨λh=>?_,λh=>?_⟩
  ·subst h;exact⟨λh=>absurd h (by decide),λ_=>⟨λ_=>rfl,λh=>absurd rfl h⟩⟩
  ·have e:Z4k [92] a b=some (a.tmod b):=by simp[Z4k,h]
   rw[e];exact⟨Zvp a b ha h,Z6H _⟩
 ·simp[Z4k,h,h2,d,f,g,fitO,resT]
theorem Zn1 (n:Int):gC (ctr fitP) 0 Zk2 Zjb [] [dI n] [] []=(Ow True (Rt (D.bool !Zu n) []):Tr):=by kernel_rfl
theorem Zs6 (n:Int):CF 179 [.int .i64 n] [] λr ob=>r=.bool (!Zu n)/\ob=[]:=by
 refine CallL.tree Z3 ZqW (Z2 Z8f Z0) (Zn1 n) ?_;simp[Z7,Z4]
def asmP (r:D):PT:=λf xs=>some (.ok (FK f xs r) r [])
theorem Zm (r:D):(asmP r).OK:=by intro f xs rt h;cases h;exactλhp=>hp
def bigQ:QT:=λd xs ob=>match d,xs,ob with
 |.func (.func f) [] [],[.int .i64 n],[]=>if f=179 then some (.ok True (.bool (!Zu n)) []) else none
 |_,_,_=>none
theorem Zeg:bigQ.OK:=by
 intro d xs ob rt h;unfold bigQ at h;split at h
 ·split at h
  ·rename_i hf;subst hf;cases h;exactλ_=>Zs6 _
  ·cases h
 ·cases h
def bigI:List Int->Int->Int
 |[],_=>-1
 |a::r,i=>if Zu a=true then bigI r (i+1) else i
theorem Za7: ∀ (l:List Int) (i:Int),0<=i->(0<=bigI l i ↔ l.all Zu=false)
 |[],i,_=>by simp[bigI]
 |a::r,i,h=>by
  have b:=Za7 r (i+1) (by omega);by_cases hf:Zu a=true
  ·simp only[bigI,hf,if_true,List.all_cons,Bool.true_and];exact b
  ·simp[bigI,hf,h]
theorem ZlQ (l:List Int) (i:Int) (h:0<=i):(decide (0<=bigI l i))= !(l.all Zu):=by
 have:=Za7 l i h;cases a:l.all Zu with
 |true=>simp[this,a]
 |false=>simp[this,a]
def eOne (c:List D):Nat->Int->List D:=λ_ _=>c
theorem Zc {α:Type} {l:List α} {i:Nat} (h:i<l.length):l.drop i=l[i]::l.drop (i+1):=List.drop_eq_getElem_cons h
theorem Z0J {k:IntKind} {l:List Int} {i:Nat} (h:i<l.length):(intC k l)[i]? = some [.int k l[i]]:=by simp[intC,h]
theorem ZR (k:IntKind) (l:List Int):(intC k l).length=l.length:=by simp[intC]
theorem ZmD (es:LD):let A:=[(0,oR false 1 3 es)];gC (ctr libT) 1 Zcg ZaD [] [dV 0,dF 179 [] []] [] A=(Jm (cut ZaD 0) {tm:=[(0,dV 0),(1,dF 179 [] []),(7,dI (↑(List.length es):Int)),(8,dI 0)],ob:=A}:Tr):=by intro A;kernel_rfl
def Zqs (es:LD) (n i:Int):St:=⟨[(0,.vec 0),(1,.func (.func 179) [] []),(7,.int .i64 n),(8,.int .i64 i)],[(0,.arr false 1 3 es)]⟩
theorem Zai (es:LD) (n:Int) (i:Nat) (c:Int):let A:=[(0,oR false 1 3 es)];let B:=((↑i:Int)+(1:Int));let C:=cut ZaD 0;gH (ctr libT bigQ (eOne [dI c])) 1 false Zcg C (Zqs es n (↑i:Int))=(brT (decide ((↑i:Int)<n)) (Ow ((0:Int)<=(↑i:Int)/\(↑i:Int)<(↑(List.length es):Int)) (Ow (es[Int.toNat (↑i:Int)]? = some [dI c]) (Ow True (brT (!Zu c) (Rt (dI (↑i:Int)) A) (I8 B (Jm C {tm:=[(0,dV 0),(1,dF 179 [] []),(7,dI n),(8,dI B)],ob:=A})))))) (Rt (dI (-1:Int)) A):Tr):=by intro A B C;kernel_rfl
theorem Zql (l:List Int) (hl:l.length<=4611686018427387904): ∀ (m i:Nat),l.length-i=m->i<=l.length →
  At Tryz.prog 1 (cut ZaD 0) (Zqs (intC .i64 l) l.length i) (FinQ false 1 Zcg λr ob=>r=.int .i64 (bigI (l.drop i) i)/\ob=[(0,.arr false 1 3 (intC .i64 l))]):=by
 intro m;induction m with
 |zero =>
  intro i hm hi;refine At.tree (Z2 Z1 Zeg) (Zai (intC .i64 l) l.length i 0) ?_;rw[List.drop_eq_nil_of_le (by omega)];simp only[SS];exact⟨λh=>by omega,λ_=>rfl⟩
 |succ m a =>
  intro i hm hi;have h1:i<l.length:=by omega
  refine At.tree (Z2 Z1 Zeg) (Zai (intC .i64 l) l.length i l[i]) ?_;rw[Zc h1];simp only[SS,bigI,ZR];refine⟨λ_=>⟨by omega,Z0J h1,λh=>by simp[h],λh=>⟨by omega,?_⟩⟩,λh=>by omega⟩;rw[if_pos h];exact a (i+1) (by omega) (by omega)
theorem Zqk (l:List Int) (hl:l.length<=4611686018427387904):CF 208 [.vec 0,.func (.func 179) [] []] [(0,.arr false 1 3 (intC .i64 l))] λr ob=>r=.int .i64 (bigI l 0)/\ob=[(0,.arr false 1 3 (intC .i64 l))]:=by
 refine CallL.tree Z3 ZqN (Z2 Z1 Z0) (ZmD _) ?_;simp only[SS,ZR];exact Zql l hl _ 0 rfl (Nat.zero_le _)
def asmO (r:D) (ob':Obs):QT:=λd xs ob=>some (.ok (CallL Tryz.prog d xs ob λr0 ob0=>r0=r/\ob0=ob') r ob')
theorem Zw (r:D) (ob':Obs):(asmO r ob').OK:=by intro d xs ob rt h;cases h;exactλhp=>hp
theorem ZmU (es:LD) (r:Int):let A:=[(0,oR false 1 3 es)];let B:=[dV 0,dF 179 [] []];gC (ctr libT (asmO (dI r) A)) 1 Zk3 Zjc [] B [] A=(Ow (CQ 208 B A (dI r) A) (Rt (dB (decide ((0:Int)<=r))) A):Tr):=by intro A B;kernel_rfl
theorem ZrM (l:List Int) (hl:l.length<=4611686018427387904):CF 178 [.vec 0,.func (.func 179) [] []] [(0,.arr false 1 3 (intC .i64 l))] λr ob=>r=.bool (!l.all Zu)/\ob=[(0,.arr false 1 3 (intC .i64 l))]:=by
 refine CallL.tree Z3 ZqX (Z2 Z1 (Zw _ _)) (ZmU (intC .i64 l) (bigI l 0)) ?_;simp only[SS];exact⟨Zqk l hl,ZlQ l 0 (by decide)⟩
def eXY (x y:Int):Nat->Int->List D:=λ_ n=>if n=0 then [.int .i64 x] else [.int .i64 y]
theorem Zhb (s:LU) (b:Bool) (o:Option Int) (es:LD) (x y:Int):let A:=[(0,oR false 1 3 es)];let B:=(↑(List.length es):Int);let C:=(D.tuple [dI (Option.getD o (0:Int)),dB (Option.isSome o)]);let E:=[(45:UInt8)];let F:=Rt (D.tuple [dI 0,dB false]) A;let G:=((0:Int)-x);gC (ctr (PT.or fitP (asmP (resT o))) (asmO (dB b) A) (eXY x y)) 1 Zkc Zjl [] [dS s,dV 0] [] A=(Ow (CQ 178 [dV 0,dF 179 [] []] A (dB b) A) (brT (!b) (brT (decide (B=(1:Int))) (Ow ((0:Int)<=(0:Int)/\(0:Int)<B) (Ow (es[0]? = some [dI x]) (I8 G (Ow True (Ow (((-9223372036854775808:Int)<=G*if s=E then (1:Int) else (0:Int))/\(G*if s=E then (1:Int) else (0:Int))<=(9223372036854775807:Int)) (Rt (D.tuple [dI (G*if s=E then (1:Int) else (0:Int)),dB (decide (s=E))]) A)))))) (brT (decide (B=(2:Int))) (Ow ((0:Int)<=(0:Int)/\(0:Int)<B) (Ow (es[0]? = some [dI x]) (Ow ((0:Int)<=(1:Int)/\(1:Int)<B) (Ow (es[1]? = some [dI y]) (Ow (FK 182 [dS s,dI x,dI y] C) (Rt C A)))))) F)) F):Tr):=by intro A B C E F G;kernel_rfl
theorem Ze7 {s:LU} {l:List Int} (h:l.all Zu=false):Z0p s l=none:=by
 unfold Z0p;rw[if_neg (by simp[h])]
theorem Ze8 (s:LU) (l:List Int) (hl:l.length<=4611686018427387904):CF 135 [.str s,.vec 0] [(0,.arr false 1 3 (intC .i64 l))] λr ob=>r=resT (Z0p s l)/\ob=[(0,.arr false 1 3 (intC .i64 l))]:=by
 refine CallL.tree Z3 Zr7 (Z2 (PT.or_ok Z8f (Zm _)) (Zw _ _)) (Zhb s (!l.all Zu) (fitO (Z4k s (l.getD 0 0) (l.getD 1 0))) (intC .i64 l) (l.getD 0 0) (l.getD 1 0)) ?_;simp only[SS,ZR];refine⟨ZrM l hl,λc=>⟨λh1=>?_,λh1=>⟨λh2=>?_,λh2=>?_⟩⟩,λc=>by rw[Ze7 c];rfl⟩
 ·match l,h1,c with
  |[a],_,c =>
   have ha:=ZD.1 (show Zu a=true by simpa using c);refine⟨by simp,rfl,by simp only[List.getD_cons_zero];omega,by simp only[List.getD_cons_zero];split<;>omega,?_⟩;simp only[Z0p,c,if_true,List.getD_cons_zero];by_cases hs:s=[45]
   ·simp[hs,resT]
   ·simp[hs,resT]
 ·match l,h2,c with
  |[a,b],_,c =>
   have d:Zu a=true/\Zu b=true:=by simpa using c
   refine⟨by simp,rfl,by simp,rfl,?_,?_⟩
   ·exact ZlM s a b d.1 d.2
   ·simp only[Z0p,c,if_true];rfl
 ·match l,h1,h2,c with
  |[],_,_,_=>rfl
  |[a],h,_,_=>exact absurd rfl h
  |[a,b],_,h,_=>exact absurd rfl h
  |_::_::_::_,_,_,c=>simp only[Z0p,c,if_true];rfl
end Go.Proofs.YtaclfbhhekhflaaGreatDoor
/- Small comparisons. -/
namespace Go.Proofs.YtaclfbhhekhflaaGreatDoor
open Go.Sx
def asmQ (r:D):QT:=λd xs ob=>match ob with
 |[]=>some (.ok (CallL Tryz.prog d xs [] λr0 ob0=>r0=r/\ob0=[]) r [])
 |_=>none
theorem Z0Q (r:D):(asmQ r).OK:=by
 intro d xs ob rt h;unfold asmQ at h;split at h
 ·cases h;exactλhp=>hp
 ·cases h
theorem ZmA (n:Int):gP (ctr libT) Zk5 Zje [dI n]=(Rt (D.bool !decide (n=n)) []:Tr):=by kernel_rfl
theorem Zqa (n:Int):FK 174 [.int .i64 n] (.bool false):=by
 refine FnOK.tree Z3 Zr0 (Z2 Z1 Z0) (ZmA n) ?_;simp[Z7]
def nanP:PT:=λf xs=>match xs with
 |[.int .i64 n]=>if f=174 then some (.ok True (.bool false) []) else none
 |_=>none
theorem ZkJ:nanP.OK:=by
 intro f xs rt h;unfold nanP at h;split at h
 ·split at h
  ·rename_i hf;subst hf;cases h;exactλ_=>Zqa _
  ·cases h
 ·cases h
theorem ZmY (a b:Int):gP (ctr nanP) Zki Zjr [dI a,dI b]=(Ow True (Ow True (brT (decide (a<b)) (Rt (dI (-1:Int)) []) (brT (decide (b<a)) (Rt (dI 1) []) (Rt (dI 0) [])))):Tr):=by kernel_rfl
theorem ZkI (a b:Int):FK 125 [.int .i64 a,.int .i64 b] (.int .i64 (ncmp a b)):=by
 refine FnOK.tree Z3 Zrg (Z2 ZkJ Z0) (ZmY a b) ?_;simp only[SS];refine⟨λh=>by simp[ncmp,h],λh=>⟨λh2=>?_,λh2=>?_⟩⟩
 ·simp[ncmp,h,h2]
 ·simp[ncmp,h,h2]
theorem ZmH (es:LD) (k:Int):gP (ctr libT) Zck Z7D [dL es [],dU k]=(Jm (cut Z7D 0) {tm:=[(0,dL es []),(1,dU k),(7,dI (↑(List.length es):Int)),(8,dI 0)],ob:=[]}:Tr):=by kernel_rfl
def hdIx (es:LD) (k n i:Int):St:=⟨[(0,.slice es []),(1,.int .u8 k),(7,.int .i64 n),(8,.int .i64 i)],[]⟩
theorem Zal (es:LD) (k n i c:Int):gH (ctr libT Qr (eOne [dU c])) 0 true Zck (cut Z7D 0) (hdIx es k n i)=(brT (decide (i<n)) (Ow ((0:Int)<=i/\es[Int.toNat i]? = some [dU c]) (brT (decide (k=c)) (Rt (dI i) []) (I8 (i+(1:Int)) (Jm (cut Z7D 0) {tm:=[(0,dL es []),(1,dU k),(7,dI n),(8,dI (i+(1:Int)))],ob:=[]})))) (Rt (dI (-1:Int)) []):Tr):=by kernel_rfl
def ixF (k:Int):List Int->Int->Int
 |[],_=>-1
 |a::r,i=>if k=a then i else ixF k r (i+1)
theorem Zl1 (l:List Int) (k:Int) (hl:l.length<=4611686018427387904): ∀ (m i:Nat),l.length-i=m->i<=l.length →
  At Tryz.prog 0 (cut Z7D 0) (hdIx (intC .u8 l) k l.length i) (FinQ true 0 Zck λr _=>r=.int .i64 (ixF k (l.drop i) i)):=by
 intro m;induction m with
 |zero =>
  intro i hm hi;refine At.tree (Z2 Z1 Z0) (Zal (intC .u8 l) k l.length i 0) ?_;rw[List.drop_eq_nil_of_le (by omega)];simp only[SS];exact⟨λh=>by omega,λ_=>rfl⟩
 |succ m a =>
  intro i hm hi;have h1:i<l.length:=by omega
  refine At.tree (Z2 Z1 Z0) (Zal (intC .u8 l) k l.length i l[i]) ?_;rw[Zc h1];simp only[SS,ixF];refine⟨λ_=>⟨⟨by omega,Z0J h1⟩,λh=>by rw[if_pos h],λh=>⟨by omega,?_⟩⟩,λh=>by omega⟩;rw[if_neg h];exact a (i+1) (by omega) (by omega)
theorem Zqr (k:Int):FK 175 [.slice [[.int .u8 1],[.int .u8 2],[.int .u8 4],[.int .u8 3],[.int .u8 5],[.int .u8 6]] [],.int .u8 k] (.int .i64 (idxI k)):=by
 have h:=Zl1 [1,2,4,3,5,6] k (by decide) _ 0 rfl (Nat.zero_le _);exact FnOK.tree Z3 ZqZ (Z2 Z1 Z0) (ZmH _ k) h
def idxP:PT:=λf xs=>match xs with
 |[.slice [[.int .u8 1],[.int .u8 2],[.int .u8 4],[.int .u8 3],[.int .u8 5],[.int .u8 6]] [],.int .u8 k]=>if f=175 then some (.ok True (.int .i64 (idxI k)) []) else none
 |_=>none
theorem Zl7:idxP.OK:=by
 intro f xs rt h;unfold idxP at h;split at h
 ·split at h
  ·rename_i hf;subst hf;cases h;exactλ_=>Zqr _
  ·cases h
 ·cases h
theorem Zh9 (k:Int):let A:=((↑(6:Nat):Int)+k);gP (ctr idxP) Zkh Zjq [dU k]=(Ow True (brT (decide ((0:Int)<=idxI k)) (Rt (dI (idxI k)) []) (I8 k (I8 A (Rt (dI A) [])))):Tr):=by intro A;kernel_rfl
theorem Zkz (k:Int) (hk:0<=k/\k<=255):FK 126 [.int .u8 k] (.int .i64 (rkI k)):=by
 refine FnOK.tree Z3 Zrf (Z2 Zl7 Z0) (Zh9 k) ?_;simp only[SS];unfold idxI rkI;refine⟨λh=>?_,λh=>⟨by omega,⟨by omega,?_⟩⟩⟩
 ·(repeat' split)<;>first|rfl|(split at h<;>omega)|(simp_all;done)
 ·(repeat' split)<;>first|omega|(simp_all;done)
theorem Zst (es:LD):gP (ctr libT) Zco Z7E [dL es []]=(Jm (cut Z7E 0) {tm:=[(3,dI 0),(6,dL es []),(7,dI (↑(List.length es):Int)),(8,dI 0)],ob:=[]}:Tr):=by kernel_rfl
def hdOr (es:LD) (n i:Int):St:=⟨[(3,.int .i64 0),(6,.slice es []),(7,.int .i64 n),(8,.int .i64 i)],[]⟩
theorem Zet (es:LD) (n i c:Int):gH (ctr libT Qr (eOne [dI c])) 0 true Zco (cut Z7E 0) (hdOr es n i)=(brT (decide (i<n)) (Ow ((0:Int)<=i/\es[Int.toNat i]? = some [dI c]) (brT (!decide (c=(0:Int))) (Rt (dI c) []) (I8 (i+(1:Int)) (Jm (cut Z7E 0) {tm:=[(3,dI 0),(6,dL es []),(7,dI n),(8,dI (i+(1:Int)))],ob:=[]})))) (Rt (dI 0) []):Tr):=by kernel_rfl
theorem Zub (l:List Int) (hl:l.length<=4611686018427387904): ∀ (m i:Nat),l.length-i=m->i<=l.length →
  At Tryz.prog 0 (cut Z7E 0) (hdOr (intC .i64 l) l.length i) (FinQ true 0 Zco λr _=>r=.int .i64 (fst0 (l.drop i))):=by
 intro m;induction m with
 |zero =>
  intro i hm hi;refine At.tree (Z2 Z1 Z0) (Zet (intC .i64 l) l.length i 0) ?_;rw[List.drop_eq_nil_of_le (by omega)];simp only[SS];exact⟨λh=>by omega,λ_=>rfl⟩
 |succ m a =>
  intro i hm hi;have h1:i<l.length:=by omega
  refine At.tree (Z2 Z1 Z0) (Zet (intC .i64 l) l.length i l[i]) ?_;rw[Zc h1];simp only[SS,fst0];refine⟨λ_=>⟨⟨by omega,Z0J h1⟩,λh=>by rw[if_pos h],λh=>⟨by omega,?_⟩⟩,λh=>by omega⟩;rw[if_neg (by simpa using h)];exact a (i+1) (by omega) (by omega)
theorem or_ok (a b c d:Int):FK 127 [.slice [[.int .i64 a],[.int .i64 b],[.int .i64 c],[.int .i64 d]] []] (.int .i64 (fst0 [a,b,c,d])):=by
 have h:=Zub [a,b,c,d] (by simp) _ 0 rfl (Nat.zero_le _);exact FnOK.tree Z3 Zre (Z2 Z1 Z0) (Zst _) h
end Go.Proofs.YtaclfbhhekhflaaGreatDoor
/- term.Compare. -/
namespace Go.Proofs.YtaclfbhhekhflaaGreatDoor
open Go.Sx
theorem ZN {l:List Tm} {i:Nat} (h:i<l.length):(Tm.cellsL l)[i]? = some l[i].cells:=by rw[Zn];simp[h]
theorem Z3r {B:Nat} {l:List Tm} (h:Tm.wfL B l) {t:Tm} (a:t∈l):t.wf B:=Qe.1 h t a
def eTwo (t0:Nat) (c d:List D):Nat->Int->List D:=λt _=>if t=t0 then c else d
theorem Zsx (es fs e a:LD):gC (ctr libT) 0 Zcn ZaJ [] [dL es e,dL fs a,dF 90 [] []] [] []=(Jm (cut ZaJ 0) {tm:=[(0,dL es e),(1,dL fs a),(2,dF 90 [] []),(11,dL es e),(12,dI (↑(List.length es):Int)),(13,dI 0)],ob:=[]}:Tr):=by kernel_rfl
def hdCF (es fs e a:LD) (n i:Int):St:=⟨[(0,.slice es e),(1,.slice fs a),(2,.func (.func 90) [] []),(11,.slice es e),(12,.int .i64 n),(13,.int .i64 i)],[]⟩
theorem Z8J (es fs e b:LD) (m i k n:Int) (s:LU) (a:LD) (f g:Int) (s':LU) (d:LD) (c:Int):let A:=[dU f,dI g,dS s',dL d []];let B:=[dU k,dI n,dS s,dL a []];let C:=(↑(List.length fs):Int);let E:=cut ZaJ 0;let F:=(i+(1:Int));gH (ctr libT (asmQ (dI c)) (eTwo 16 B A)) 0 false Zcn E (hdCF es fs e b m i)=(brT (decide (i<m)) (Ow ((0:Int)<=i/\es[Int.toNat i]? = some B) (brT (decide (C<=i)) (Rt (dI 1) []) (Ow ((0:Int)<=i/\fs[Int.toNat i]? = some A) (Ow (CQ 90 [dA B,dA A] [] (dI c) []) (brT (!decide (c=(0:Int))) (Rt (dI c) []) (I8 F (Jm E {tm:=[(0,dL es e),(1,dL fs b),(2,dF 90 [] []),(11,dL es e),(12,dI m),(13,dI F)],ob:=[]}))))))) (brT (decide ((↑(List.length es):Int)<C)) (Rt (dI (-1:Int)) []) (Rt (dI 0) [])):Tr):=by intro A B C E F;kernel_rfl
def CmpC (x y:Tm):Prop:=CF 90 [.agg x.cells,.agg y.cells] [] λr ob=>r=.int .i64 (x.cmp y)/\ob=[]
theorem Zvo (e d:LD) (l q:List Tm) (hl:l.length<=281474976710656) (w:q.length<=281474976710656) (H: ∀ x∈l,∀ y∈q,CmpC x y): ∀ (m i:Nat),l.length-i=m->i<=l.length->i<=q.length →
  At Tryz.prog 0 (cut ZaJ 0) (hdCF (Tm.cellsL l) (Tm.cellsL q) e d l.length i) (FinQ false 0 Zcn λr ob=>r=.int .i64 (Tm.cmpL (l.drop i) (q.drop i))/\ob=[]):=by
 intro m;induction m with
 |zero =>
  intro i hm hi f;refine At.tree (Z2 Z1 (Z0Q (.int .i64 0))) (Z8J (Tm.cellsL l) (Tm.cellsL q) e d l.length i 0 0 [] [] 0 0 [] [] 0) ?_;rw[List.drop_eq_nil_of_le (by omega)];simp only[SS,Z5];refine⟨λh=>by omega,λ_=>⟨λh=>?_,λh=>?_⟩⟩
  ·rw[Zc (show i<q.length by omega)];rfl
  ·rw[List.drop_eq_nil_of_le (by omega)];rfl
 |succ m t =>
  intro i hm hi f;have h1:i<l.length:=by omega
  have hx:=ZN h1;have g:l[i]∈l:=List.getElem_mem h1;have j:=Zc h1;by_cases h2:i<q.length
  ·have o:=ZN h2;have b:=H _ g _ (List.getElem_mem h2);rw[j,Zc h2];simp only[Tm.cmpL];unfold CmpC at b;generalize hc:Tm.cmp l[i] q[i]=c at b ⊢;generalize l[i]=x at hx b;generalize q[i]=y at o b;obtain⟨k,n,s,a⟩:=x;obtain⟨u,v,s',p⟩:=y;refine At.tree (Z2 Z1 (Z0Q (.int .i64 c))) (Z8J (Tm.cellsL l) (Tm.cellsL q) e d l.length i k n s (Tm.cellsL a) u v s' (Tm.cellsL p) c) ?_;simp only[SS,Z5];refine⟨λ_=>⟨⟨by omega,hx⟩,λh=>by omega,λ_=>⟨⟨by omega,o⟩,b,λh=>by rw[if_pos h],λh=>⟨by omega,?_⟩⟩⟩,λh=>by omega⟩;rw[if_neg (by simpa using h)];exact t (i+1) (by omega) (by omega) (by omega)
  ·rw[j,List.drop_eq_nil_of_le (show q.length<=i by omega)];generalize l[i]=x at hx;obtain⟨k,n,s,a⟩:=x;refine At.tree (Z2 Z1 (Z0Q (.int .i64 0))) (Z8J (Tm.cellsL l) (Tm.cellsL q) e d l.length i k n s (Tm.cellsL a) 0 0 [] [] 0) ?_;simp only[SS,Z5];exact⟨λ_=>⟨⟨by omega,hx⟩,λ_=>rfl,λh=>by omega⟩,λh=>by omega⟩
theorem Zs0 (e a:LD) (l q:List Tm) (hl:l.length<=281474976710656) (b:q.length<=281474976710656) (H: ∀ x∈l,∀ y∈q,CmpC x y):CF 128 [.slice (Tm.cellsL l) e,.slice (Tm.cellsL q) a,.func (.func 90) [] []] [] λr ob=>r=.int .i64 (Tm.cmpL l q)/\ob=[]:=by
 refine CallL.tree Z3 Zrd (Z2 Z1 Z0) (Zsx (Tm.cellsL l) (Tm.cellsL q) e a) ?_;simp only[SS,Z5];exact Zvo e a l q hl b H _ 0 rfl (Nat.zero_le _) (Nat.zero_le _)
def ZlG:PT:=λf xs=>match xs with
 |[.int .u8 k]=>if f=126 then some (.ok (0<=k/\k<=255) (.int .i64 (rkI k)) []) else none
 |[.int .i64 a,.int .i64 b]=>if f=125 then some (.ok True (.int .i64 (ncmp a b)) []) else none
 |[.slice [[.int .i64 a],[.int .i64 b],[.int .i64 c],[.int .i64 d]] []]=>if f=127 then some (.ok True (.int .i64 (fst0 [a,b,c,d])) []) else none
 |xs=>libT f xs
theorem Za0:ZlG.OK:=by
 intro f xs rt h;unfold ZlG at h;split at h
 ·split at h
  ·rename_i hf;subst hf;cases h;exactλhk=>Zkz _ hk
  ·cases h
 ·split at h
  ·rename_i hf;subst hf;cases h;exactλ_=>ZkI _ _
  ·cases h
 ·split at h
  ·rename_i hf;subst hf;cases h;exactλ_=>or_ok _ _ _ _
  ·cases h
 ·exact Z1 _ _ _ h
theorem Zi7 (k n:Int) (s:LU) (a:LD) (b d:Int) (s':LU) (f:LD) (c:Int) (e g:LD):let A:=(Ow True (Ow True (Ow (CQ 128 [dL a e,dL f g,dF 90 [] []] [] (dI c) []) (Ow True (Ow True (Rt (dI (fst0 [ncmp (↑(List.length a):Int) (↑(List.length f):Int),Lib.compareBytes s s',c,ncmp n d])) []))))));gC (ctr ZlG (asmQ (dI c))) 0 rs90 sc90 [] [dA [dU k,dI n,dS s,dL a e],dA [dU b,dI d,dS s',dL f g]] [] []=(Ow ((0:Int)<=k/\k<=(255:Int)) (Ow ((0:Int)<=b/\b<=(255:Int)) (Ow True (brT (!decide (ncmp (rkI k) (rkI b)=(0:Int))) (Rt (dI (ncmp (rkI k) (rkI b))) []) (Ow True (brT (!decide (ncmp n d=(0:Int))) (brT (decide (k=(1:Int))) (Rt (dI (ncmp n d)) []) A) A))))):Tr):=by intro A;kernel_rfl
def Ze5:Tm->LD->List D
 |.mk k n s l,e=>[.int .u8 (k:Int),.int .i64 n,.str s,.slice (Tm.cellsL l) e]
theorem Z1E (x:Tm):Ze5 x []=x.cells:=by cases x;rfl
theorem Z9Z: ∀ (x y:Tm) (e a:LD),x.wf 281474976710656->y.wf 281474976710656->CF 90 [.agg (Ze5 x e),.agg (Ze5 y a)] [] λr ob=>r=.int .i64 (x.cmp y)/\ob=[]
 |.mk k n s l,.mk o z s' c,e,a,hx,b=>by
  simp only[Tm.wf] at hx b;obtain⟨hk,t,u,hs,hl,w⟩:=hx;obtain⟨q,j,m,v,f,g⟩:=b;have i:=Zs0 e a l c hl f λx hx y b=>by
   have:=Z9Z x y [] [] (Z3r w hx) (Z3r g b);rw[Z1E,Z1E] at this;exact this
  refine CallL.tree Z3 fp90 (Z2 Za0 (Z0Q (.int .i64 (Tm.cmpL l c)))) (Zi7 k n s (Tm.cellsL l) o z s' (Tm.cellsL c) (Tm.cmpL l c) e a) ?_;simp only[SS,Z5,Tm.cmp,fst0];have p:((k:Int)=1)=(k=1):=propext (by omega);simp only[p];refine⟨by omega,by omega,λh=>by rw[if_pos h],λh=>⟨λh2=>⟨λd=>?_,λd=>⟨i,?_⟩⟩,λh2=>⟨i,?_⟩⟩⟩
  ·subst d;have h':ncmp (rkI 1) (rkI o)=0:=h;simp[h',h2]
  ·simp[h,h2,d]
  ·simp[h,h2]
termination_by x=>SizeOf.sizeOf x
decreasing_by
 have:=List.sizeOf_lt_of_mem hx;simp only[Tm.mk.sizeOf_spec];omega
theorem ZgK (x y:Tm) (hx:x.wf 281474976710656) (a:y.wf 281474976710656):CmpC x y:=by
 have:=Z9Z x y [] [] hx a;rw[Z1E,Z1E] at this;exact this
end Go.Proofs.YtaclfbhhekhflaaGreatDoor
/- Equality,sizes. -/
namespace Go.Proofs.YtaclfbhhekhflaaGreatDoor
open Go.Sx
def hdSz (a:LD) (m n i:Int):St:=⟨[(0,.slice a []),(1,.int .i64 m),(5,.int .i64 n),(6,.int .i64 i)],[]⟩
theorem Zsw (k n:Int) (s:LU) (a:LD) (d e:Int) (s':LU) (b:LD) (c:Int):let A:=[dA [dU k,dI n,dS s,dL a []],dA [dU d,dI e,dS s',dL b []]];gP (ctr (asmP (dI c))) rs58 sc58 A=(Ow (FK 90 A (dI c)) (Rt (dB (decide (c=(0:Int)))) []):Tr):=by intro A;kernel_rfl
def SzP (x:Tm):Prop:=∀ m:Int,0<=m->m<=1000000->FK 20 [.agg x.cells,.int .i64 m] (.int .i64 (x.sz m))
theorem ZpZ:ZC Tryz.prog 90=true:=by kernel_rfl
theorem ZrW (x y:Tm) (hx:x.wf 281474976710656) (a:y.wf 281474976710656):FK 90 [.agg x.cells,.agg y.cells] (.int .i64 (x.cmp y)) :=
 FnOK.of_call ZpZ ((ZgK x y hx a).mono λr ob ⟨h1,h2⟩=>by subst h1;subst h2;exact .inr ⟨rfl,rfl⟩)
theorem Zgx (x y:Tm) (hx:x.wf 281474976710656) (b:y.wf 281474976710656):FK 58 [.agg x.cells,.agg y.cells] (.bool (x.eqb y)):=by
 have a:=ZrW x y hx b;rw[Zlv];generalize x.cmp y=c at a ⊢;obtain⟨k,n,s,l⟩:=x;obtain⟨d,f,s',e⟩:=y;refine FnOK.tree Z3 fp58 (Z2 (Zm (.int .i64 c)) Z0) (Zsw k n s (Tm.cellsL l) d f s' (Tm.cellsL e) c) ?_;simp only[SS];exact a
def sCtr (l:List (Nat × D)):Ctr:=⟨λt f a=>match lk l t with|some r=>some (.ok (FK f a r) r [])|none=>none,λ_=>Qr,noE⟩
theorem Zc9 (l:List (Nat × D)):(sCtr l).OK Tryz.prog:=by
 refine⟨λt f a rt h=>?_,λ_=>Z0⟩;simp only[sCtr] at h;split at h
 ·cases h;exactλhp=>hp
 ·cases h
end Go.Proofs.YtaclfbhhekhflaaGreatDoor
