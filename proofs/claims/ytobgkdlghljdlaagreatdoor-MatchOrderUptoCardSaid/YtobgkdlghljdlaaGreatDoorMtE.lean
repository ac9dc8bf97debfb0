/- Own work: a layer over the kit: plain data,a walk over it,its soundness. -/
import Derived.Test.YtobgkdlghljdlaaGreatDoorMtC
import Derived.Test.YtobgkdlghljdlaaGreatDoorSx8
import Derived.Test.YtobgkdlghljdlaaGreatDoorSx9
set_option linter.unusedSectionVars false
set_option linter.unusedVariables false
set_option linter.unusedSimpArgs false
set_option linter.deprecated false
set_option maxRecDepth 100000
/- Bindings: binding a name. -/
namespace Go.Proofs.YtobgkdlghljdlaaGreatDoor
open Go.Sx
abbrev zB:List D:=[.str [],.int .u8 0,.int .i64 0,.str [],.slice [] []]
abbrev nRow (es:LD):Obs:=[(0,.cells [.vec 1]),(1,.arr false 5 45 es)]
theorem Zc7 (l:List Bd) (i:Nat):bdL (l.take i)=(bdL l).take i:=by simp[bdL,List.map_take]
theorem Zc8 (l:List Bd) (i:Nat):bdL (l.drop i)=(bdL l).drop i:=by simp[bdL,List.map_drop]
theorem Z9Y (l m:List Bd):bdL (l++m)=bdL l++bdL m:=by simp[bdL]
theorem Zgm {es:LD} {c z:List D} {i:Nat} (hi:i<=es.length):cpyL ((cpyL (List.replicate (es.length+1) z) 0 (es.take i)).set i c) (i+1) (es.drop i)=es.take i++c::es.drop i:=by
 have e1:cpyL (List.replicate (es.length+1) z) 0 (es.take i)=es.take i++z::List.replicate (es.length-i) z:=by
  have h1:(es.take i).take (es.length+1)=es.take i:=List.take_of_length_le (by rw[List.length_take]; omega)
  have h2:es.length+1-i=(es.length-i)+1:=by omega
  unfold cpyL
  rw[List.length_replicate,Nat.sub_zero,h1,List.length_take,Nat.min_eq_left hi,List.drop_replicate,Nat.zero_add,h2]
  rfl
 have hlen:(es.take i).length=i:=by rw[List.length_take]; omega
 rw[e1]
 have e2:(es.take i++z::List.replicate (es.length-i) z).set i c=es.take i++c::List.replicate (es.length-i) z:=by
  rw[List.set_append_right _ _ (by omega),hlen,Nat.sub_self]; rfl
 rw[e2]
 unfold cpyL
 have e3:(es.take i++c::List.replicate (es.length-i) z).take (i+1)=es.take i++[c]:=by
  rw[List.take_append,hlen,List.take_of_length_le (show (es.take i).length<=i+1 by omega)]
  have:i+1-i=1:=by omega
  rw[this]; rfl
 have e4:(es.take i++c::List.replicate (es.length-i) z).length=es.length+1:=by
  rw[List.length_append,hlen,List.length_cons,List.length_replicate]; omega
 have e5:(es.drop i).take (es.length+1-(i+1))=es.drop i:=List.take_of_length_le (by rw[List.length_drop]; omega)
 have e6:(es.take i++c::List.replicate (es.length-i) z).drop (i+1+(es.drop i).length)=[]:=List.drop_eq_nil_of_le (by rw[e4,List.length_drop]; omega)
 rw[e3,e4,e5,e6]
 simp
theorem Z9Z (l:List Bd): ∀ q∈bdL l,q.length=5:=fun q hq=>by
 obtain⟨x,_,rfl⟩:=List.mem_map.1 hq
 exact Z9X x
theorem Z7Q (l:List Bd):Zc 5 (bdL l++[]):=by
 rw[List.append_nil]
 intro q hq
 exact Z9Z l q hq
def bndD:Option (List Bd)->D
 | some c=> .tuple [.slice (bdL c) [],.bool true]
 | none=> .tuple [.slice [] [],.bool false]
end Go.Proofs.YtobgkdlghljdlaaGreatDoor
/- match.state: trees. -/
namespace Go.Proofs.YtobgkdlghljdlaaGreatDoor
open Go.Sx
abbrev oS (es os:LD):Obs:=[(0,.cells [.slice es [],.vec 1]),(1,.arr true 8 135 os)]
abbrev oS2 (es os:LD):Obs:=[(0,.cells [.slice es [],.vec 2]),(2,.arr true 8 135 os)]
abbrev oN (es:LD):Obs:=[(0,.cells [.slice es [],.nils])]
abbrev fO:D:= .func (.func 105) [.ptr 0 0] []
def extQ (b:Bool) (es os:LD):QT:=fun d xs ob=>some (.br b (.ok (CallL Tryz.prog d xs ob fun r o=>r= .bool true/\o=oS2 es os) (.bool true) (oS2 es os)) (.ok (CallL Tryz.prog d xs ob fun r o=>r= .bool false/\o=[]) (.bool false) []))
theorem ZC {b:Bool} {es os:LD}:(extQ b es os).OK:=by
 intro d xs ob rt h
 unfold extQ at h
 cases h
 cases b <;> exact fun hp=>hp
def clC (l:List (Nat × D)) (e:List (Nat × List D)) (c:List (Nat × D)) (q:QT):Ctr:=⟨(mCtr l e c).F,fun t d xs ob=>match lk c t with | some r=>some (.ok (CallL Tryz.prog d xs ob fun r0 o=>r0=r/\o=ob) r ob) | none=>q d xs ob,(mCtr l e c).E⟩
theorem QN {l:List (Nat × D)} {e:List (Nat × List D)} {c:List (Nat × D)} {q:QT} (hq:q.OK):(clC l e c q).OK Tryz.prog:=by
 refine⟨(Z5 (l:=l) (e:=e) (c:=c)).1,fun t d az ob rt h=> ?_⟩
 simp only[clC] at h
 split at h
 ·cases h; exact fun hp=>hp
 ·exact hq _ _ _ _ h
theorem Z7T (es os:LD) (k n:Int) (s:LU) (a:LD) (k' n':Int) (s':LU) (a':LD) (b:Bool) (es' os':LD):let A:=[[dU k,dI n,dS s,dL a [],dU k',dI n',dS s',dL a' []]];let B:=Rt (dB false) (oS es os);let C:=[dP 0 0,dL a [],dL a' []];let E:=Rt (dB true) [(0,oC [dL es [],dV 2]),(2,oR true 8 135 (os++A))];let F:=oS2 es' os';let G:=oS es os;let H:=Rt (dB false) [];let I:=[dP 0 0,dS s,dA (tC k' n' s' a')];let J:=Rt (dB true) F;gC (qCtr [] (extQ b es' os')) 2 Zf9 Zet [dP 0 0] [dA (tC k n s a),dA (tC k' n' s' a')] [] G=(brT (decide (k=(3:Int))) (brT b (Ow (CF 51 I G fun r o=>r=dB true/\o=F) J) (Ow (CF 51 I G fun r o=>r=dB false/\o=[]) H)) (brT (decide (k=(5:Int))) (brT (decide (k=(5:Int))) (Ow (Zc 8 A/\List.length os+1<=1073741824) E) (brT (decide (k=k')) (brT (decide (n=n')) (brT (decide (s=s')) (brT b (Ow (CF 70 C G fun r o=>r=dB true/\o=F) J) (Ow (CF 70 C G fun r o=>r=dB false/\o=[]) H)) B) B) B)) (brT (decide (k=(6:Int))) (Ow (Zc 8 A/\List.length os+1<=1073741824) E) (brT (decide (k=k')) (brT (decide (n=n')) (brT (decide (s=s')) (brT b (Ow (CF 70 C G fun r o=>r=dB true/\o=F) J) (Ow (CF 70 C G fun r o=>r=dB false/\o=[]) H)) B) B) B))):Tr):=by intro A B C E F G H I J;kernel_rfl
theorem Zdk (es os xs ys:LD) (b:Bool) (es' os':LD):let A:=[dL xs [],dL ys [],dF 105 [dP 0 0] []];let B:=oS es os;let C:=oS2 es' os';gC (qCtr [] (extQ b es' os')) 2 rs70 sc70 [] [dP 0 0,dL xs [],dL ys []] [] B=(brT b (Ow (CF 104 A B fun r o=>r=dB true/\o=C) (Rt (dB true) C)) (Ow (CF 104 A B fun r o=>r=dB false/\o=[]) (Rt (dB false) [])):Tr):=by intro A B C;kernel_rfl
theorem Z73 (es os xs ys:LD):let A:=(↑(List.length xs):Int);let B:=oS es os;gC (mCtr []) 2 Z53 Z4a [] [dL xs [],dL ys [],fO] [] B=(brT (!decide (A=(↑(List.length ys):Int))) (Rt (dB false) B) (Jm (cut Z4a 0) { tm:=[(1,dL ys []),(2,dF 105 [dP 0 0] []),(15,dL xs []),(16,dI A),(17,dI (0:Int))],ob:=B }):Tr):=by intro A B;kernel_rfl
def hdEq (xs ys:LD) (n i:Int) (ob:Obs):St:=⟨[(1,.slice ys []),(2,fO),(15,.slice xs []),(16,.int .i64 n),(17,.int .i64 i)],ob⟩
theorem Z5O (es os xs ys:LD) (nn:Int) (i:Nat) (k n:Int) (s:LU) (a:LD) (k' n':Int) (s':LU) (a':LD) (b:Bool) (es' os':LD):let A:=[dA (tC k n s a),dA (tC k' n' s' a')];let B:=oS es os;let C:=dF 105 [dP 0 0] [];let E:=((↑i:Int)+(1:Int));let F:=cut Z4a 0;let G:=oS2 es' os';gH (clC [] [(20,tC k n s a),(24,tC k' n' s' a')] [] (extQ b es' os')) 2 false Z53 F (hdEq xs ys nn (↑i:Int) B)=(brT (decide ((↑i:Int)<nn)) (Ow ((0:Int)<=(↑i:Int)/\xs[Int.toNat (↑i:Int)]? = some (tC k n s a)) (Ow ((0:Int)<=(↑i:Int)/\ys[Int.toNat (↑i:Int)]? = some (tC k' n' s' a')) (brT b (Ow (CallL Tryz.prog C A B fun r o=>r=dB true/\o=G) (I8 E (Jm F { tm:=[(1,dL ys []),(2,dF 105 [dP 0 0] []),(15,dL xs []),(16,dI nn),(17,dI E)],ob:=G }))) (Ow (CallL Tryz.prog C A B fun r o=>r=dB false/\o=[]) (Rt (dB false) []))))) (Rt (dB true) B):Tr):=by intro A B C E F G;kernel_rfl
theorem Z5N (es os xs ys:LD) (nn:Int) (i:Nat) (k n:Int) (s:LU) (a:LD) (k' n':Int) (s':LU) (a':LD) (b:Bool) (es' os':LD):let A:=[dA (tC k n s a),dA (tC k' n' s' a')];let B:=dF 105 [dP 0 0] [];let C:=((↑i:Int)+(1:Int));let E:=cut Z4a 0;let F:=oS2 es' os';let G:=oS2 es os;gH (clC [] [(20,tC k n s a),(24,tC k' n' s' a')] [] (extQ b es' os')) 2 false Z53 E (hdEq xs ys nn (↑i:Int) G)=(brT (decide ((↑i:Int)<nn)) (Ow ((0:Int)<=(↑i:Int)/\xs[Int.toNat (↑i:Int)]? = some (tC k n s a)) (Ow ((0:Int)<=(↑i:Int)/\ys[Int.toNat (↑i:Int)]? = some (tC k' n' s' a')) (brT b (Ow (CallL Tryz.prog B A (oS es os) fun r o=>r=dB true/\o=F) (I8 C (Jm E { tm:=[(1,dL ys []),(2,dF 105 [dP 0 0] []),(15,dL xs []),(16,dI nn),(17,dI C)],ob:=F }))) (Ow (CallL Tryz.prog B A (oS es os) fun r o=>r=dB false/\o=[]) (Rt (dB false) []))))) (Rt (dB true) G):Tr):=by intro A B C E F G;kernel_rfl
/- bind -/
theorem Zdg (es os:LD) (t:LU) (kv nv:Int) (sv:LU) (av:LD):gC (mCtr []) 2 rs51 sc51 [] [dP 0 0,dS t,dA (tC kv nv sv av)] [] (oS es os)=(Jm (frg sc51 0) { tm:=[(0,dP 0 0),(1,dS t),(5,dP 2 0)],ob:=[(0,oC [dL es [],dV 1]),(1,oR true 8 135 os),(2,oC (tC kv nv sv av))] }:Tr):=by kernel_rfl
theorem Zdi (es os:LD) (t:LU) (kv nv:Int) (sv:LU) (av:LD) (i:Int) (b:Bool):let A:=(2,oC (tC kv nv sv av));let B:=[dI i,dB b];gH (mCtr [(16,D.tuple B)]) 2 false rs51 (frg sc51 0) { tm:=[(0,dP 0 0),(1,dS t),(5,dP 2 0)],ob:=oS es os++[A] }=(Ow (FK 82 [dL es [],dS t] (D.tuple B)) (Jm (frg sc51 1) { tm:=[(0,dP 0 0),(1,dS t),(5,dP 2 0),(7,dI i),(8,dB b)],ob:=[(0,oC [dL es [],dV 1]),(1,oR true 8 135 os),A] }):Tr):=by intro A B;kernel_rfl
theorem Zdh (es os:LD) (t:LU) (kv nv:Int) (sv:LU) (av:LD) (i:Int) (b e:Bool) (m:LU) (k n:Int) (s:LU) (a:LD):let A:=tC kv nv sv av;gH (mCtr [(29,dB e)] [(25,bC m k n s a)]) 2 false rs51 (frg sc51 1) { tm:=[(0,dP 0 0),(1,dS t),(5,dP 2 0),(7,dI i),(8,dB b)],ob:=oS es os++[(2,oC A)] }=(brT b (Ow ((0:Int)<=i/\es[Int.toNat i]? = some (bC m k n s a)) (Ow (FK 27 [dA (tC k n s a),dA A] (dB e)) (Rt (dB e) (oS es os)))) (Jm (frg sc51 2) { tm:=[(0,dP 0 0),(1,dS t),(5,dP 2 0),(7,dI i)],ob:=[(0,oC [dL es [],dV 1]),(1,oR true 8 135 os),(2,oC A)] }):Tr):=by intro A;kernel_rfl
noncomputable def NB2 (es os:LD) (t:LU) (kv nv:Int) (sv:LU) (av:LD) (i:Int):Tr:=I8 ((↑(List.length es):Int)+(1:Int)) (Ow ((0:Int)<=(↑(List.length es):Int)+(1:Int)/\((↑(List.length es):Int)+(1:Int))*(72:Int)<=(281474976710656:Int)/\(↑(List.length es):Int)+(1:Int)<=(1073741824:Int)) (Jm (frg sc51 3) { tm:=[(0,dP 0 0),(1,dS t),(5,dP 2 0),(7,dI i),(9,dV 3)],ob:=[(0,oC [dL es [],dV 1]),(1,oR true 8 135 os),(2,oC (tC kv nv sv av)),(3,oR false 5 45 ([dS [],dU (0:Int),dI (0:Int),dS [],dL [] []]::List.replicate (List.length es) [dS [],dU (0:Int),dI (0:Int),dS [],dL [] []]))] }))
theorem ZmF (es os:LD) (t:LU) (kv nv:Int) (sv:LU) (av:LD) (i:Int):gH (mCtr []) 2 false rs51 (frg sc51 2) { tm:=[(0,dP 0 0),(1,dS t),(5,dP 2 0),(7,dI i)],ob:=oS es os++[(2,oC (tC kv nv sv av))] }=NB2 es os t kv nv sv av i:=by kernel_rfl
theorem ZmE (es os:LD) (t:LU) (kv nv:Int) (sv:LU) (av row A X:LD) (i:Int):let B:=[(0,dP 0 0),(1,dS t),(5,dP 2 0),(7,dI i),(9,dV 3)];let C:=(2,oC (tC kv nv sv av));let E:=Int.toNat i;gH (mCtr [] [(43,[dL A X])]) 2 false rs51 (frg sc51 3) { tm:=B,ob:=oS es os++[C,(3,oR false 5 45 row)] }=(Ow (Zc 5 (es++[])/\(0:Int)<=(0:Int)/\(0:Int)<=i/\i<=(↑(List.length (es++[])):Int)) (Ow (List.drop 0 (List.take E (es++[]))=A/\List.drop E (es++[])=X) (Ow (badN 5 A<1) (Jm (frg sc51 4) { tm:=B,ob:=[(0,oC [dL es [],dV 1]),(1,oR true 8 135 os),C,(3,oR false 5 45 (cpyL row 0 A))] }))):Tr):=by intro B C E;kernel_rfl
theorem ZmD (es os:LD) (t:LU) (kv nv:Int) (sv:LU) (av row:LD) (i:Int):gH (mCtr []) 2 false rs51 (frg sc51 4) { tm:=[(0,dP 0 0),(1,dS t),(5,dP 2 0),(7,dI i),(9,dV 3)],ob:=oS es os++[(2,oC (tC kv nv sv av)),(3,oR false 5 45 row)] }=(Ow ((0:Int)<=i/\i<(↑(List.length row):Int)) (Ow (Int.toNat i<List.length row) (Jm (frg sc51 5) { tm:=[(0,dP 0 0),(7,dI i),(9,dV 2)],ob:=[(0,oC [dL es [],dV 1]),(1,oR true 8 135 os),(2,oR false 5 45 (List.set row (Int.toNat i) (bC t kv nv sv av)))] })):Tr):=by kernel_rfl
theorem ZmC (es os row A X:LD) (i:Int):let B:=(↑(List.length es):Int);let C:=Int.toNat B;let E:=(i+(1:Int));gH (mCtr [] [(60,[dL A X])]) 2 false rs51 (frg sc51 5) { tm:=[(0,dP 0 0),(7,dI i),(9,dV 2)],ob:=oS es os++[(2,oR false 5 45 row)] }=(I8 E (Ow (row≠[]/\(0:Int)<=i+(1:Int)/\i+(1:Int)<=(↑(List.length row):Int)) (Ow (Zc 5 (es++[])/\(0:Int)<=i/\i<=B/\B<=(↑(List.length (es++[])):Int)) (Ow (List.drop (Int.toNat i) (List.take C (es++[]))=A/\List.drop C (es++[])=X) (Ow (badN 5 A<1) (Jm (frg sc51 6) { tm:=[(0,dP 0 0),(9,dV 2)],ob:=[(0,oC [dL es [],dV 1]),(1,oR true 8 135 os),(2,oR false 5 45 (cpyL row (Int.toNat E) A))] }))))):Tr):=by intro B C E;kernel_rfl
theorem ZmB (es os row:LD):let A:=(2,oR false 5 45 row);gH (mCtr []) 2 false rs51 (frg sc51 6) { tm:=[(0,dP 0 0),(9,dV 2)],ob:=oS es os++[A] }=(Jm (frg sc51 7) { tm:=[],ob:=[(0,oC [dV 2,dV 1]),(1,oR true 8 135 os),A] }:Tr):=by intro A;kernel_rfl
theorem ZmA (os row:LD):let A:=[(0,oC [dV 2,dV 1]),(1,oR true 8 135 os),(2,oR false 5 45 row)];gH (mCtr []) 2 false rs51 (frg sc51 7) { tm:=[],ob:=A }=(Rt (dB true) A:Tr):=by intro A;kernel_rfl
/- get,apply,result -/
theorem Zam (es os:LD) (t:LU) (i:Int) (b:Bool) (m:LU) (k n:Int) (s:LU) (a:LD):let A:=oS es os;let B:=[dI i,dB b];gC (mCtr [(14,D.tuple B)] [(25,bC m k n s a)]) 2 rs42 sc42 [] [dP 0 0,dS t] [] A=(Ow (FK 82 [dL es [],dS t] (D.tuple B)) (brT (!b) (Rt (D.tuple [dA [dU (0:Int),dI (0:Int),dS [],dL [] []],dB false]) A) (Ow ((0:Int)<=i/\es[Int.toNat i]? = some (bC m k n s a)) (Rt (D.tuple [dA (tC k n s a),dB true]) A))):Tr):=by intro A B;kernel_rfl
abbrev oP (es os:LD):Obs:=[(0,.cells [.ptr 1 0]),(1,.cells [.slice es [],.vec 2]),(2,.arr true 8 135 os)]
theorem Zao (es os:LD) (k n:Int) (s:LU) (a:LD) (kv nv:Int) (sv:LU) (av:LD) (b:Bool):let A:=[dA (tC kv nv sv av),dB b];let B:=oP es os;gC (mCtr [] [] [(12,D.tuple A)]) 3 Zb9 Zb1 [] [dA (tC k n s a)] [dP 0 0] B=(brT (!decide (k=(3:Int))) (Rt (D.tuple [dA [dU (0:Int),dI (0:Int),dS [],dL [] []],dB false]) B) (Ow (CF 42 [dP 0 0,dS s] (oS es os) fun r0 o=>r0=D.tuple A/\o=(oS es os)) (Rt (D.tuple A) B)):Tr):=by intro A B;kernel_rfl
theorem Zde (es os:LD) (k n:Int) (s:LU) (a a':LD) (kv nv:Int) (sv:LU) (av:LD) (b:Bool):let A:=tC kv nv sv av;let B:=oP es os;let C:=tC k n s a;let E:=[dA A,dB b];gC (mCtr [(15,dA A)] [] [(10,D.tuple E),(19,dL a' [])]) 3 rs45 sc45 [] [fA,dA C] [] B=(Ow (CallL Tryz.prog (dF 113 [] [dP 0 0]) [dA C] B fun r0 o=>r0=D.tuple E/\o=B) (brT b (Ow (FK 43 [dA A] (dA A)) (Rt (dA A) B)) (Ow (CF 85 [dF 113 [] [dP 0 0],dL a []] B fun r0 o=>r0=dL a' []/\o=B) (Rt (dA (tC k n s a')) B))):Tr):=by intro A B C E;kernel_rfl
theorem Zmu (es os l:LD):gC (mCtr []) 3 rs85 sc85 [] [fA,dL l []] [] (oP es os)=(Jm (cut sc85 0) { tm:=[(0,dF 113 [] [dP 0 0]),(4,dV 3),(7,dL l []),(8,dI (↑(List.length l):Int)),(9,dI (0:Int))],ob:=[(0,oC [dP 1 0]),(1,oC [dL es [],dV 2]),(2,oR true 8 135 os),(3,oR true 4 35 [])] }:Tr):=by kernel_rfl
def hdNA (es os l row:LD) (m i:Int):St:=⟨[(0,fA),(4,.vec 3),(7,.slice l []),(8,.int .i64 m),(9,.int .i64 i)],oP es os++[(3,.arr true 4 35 row)]⟩
theorem Zaj (es os l row:LD) (m:Int) (i:Nat) (kx nx:Int) (sx:LU) (ax:LD) (ky ny:Int) (sy:LU) (ay:LD):let A:=tC ky ny sy ay;let B:=(1,oC [dL es [],dV 2]);let C:=(2,oR true 8 135 os);let E:=((↑i:Int)+(1:Int));let F:=tC kx nx sx ax;let G:=(0,oC [dP 1 0]);let H:=cut sc85 0;gH (mCtr [] [(11,tC kx nx sx ax)] [(16,dA A)]) 3 false rs85 H (hdNA es os l row m (↑i:Int))=(brT (decide ((↑i:Int)<m)) (Ow ((0:Int)<=(↑i:Int)/\l[Int.toNat (↑i:Int)]? = some F) (Ow (CF 45 [dF 113 [] [dP 0 0],dA F] (oP es os) fun r0 o=>r0=dA A/\o=(oP es os)) (Ow (Zc 4 [A]/\List.length row+1<=1073741824) (I8 E (Jm H { tm:=[(0,dF 113 [] [dP 0 0]),(4,dV 3),(7,dL l []),(8,dI m),(9,dI E)],ob:=[G,B,C,(3,oR true 4 35 (row++[A]))] }))))) (Rt (dV 3) [G,B,C,(3,oR true 4 35 row)]):Tr):=by intro A B C E F G H;kernel_rfl
theorem ZmG (es os:LD):gC (mCtr []) 2 rs84 sc84 [] [dP 0 0] [] (oS es os)=(Rt (dF 113 [] [dP 2 0]) [(0,oC [dL es [],dV 1]),(1,oR true 8 135 os),(2,oC [dP 0 0])]:Tr):=by kernel_rfl
theorem Zmv (es os:LD):gC (mCtr []) 2 rs52 sc52 [] [dP 0 0] [] (oS es os)=(Jm (cut sc52 0) { tm:=[(2,dV 2),(8,dL es []),(9,dI (↑(List.length es):Int)),(10,dI (0:Int))],ob:=[(0,oC [dL es [],dV 1]),(1,oR true 8 135 os),(2,oR true 5 45 [])] }:Tr):=by kernel_rfl
def hdNR (es os row:LD) (m i:Int):St:=⟨[(2,.vec 2),(8,.slice es []),(9,.int .i64 m),(10,.int .i64 i)],oS es os++[(2,.arr true 5 45 row)]⟩
theorem Zak (es os row:LD) (mm:Int) (i:Nat) (m:LU) (k n:Int) (s:LU) (a:LD):let A:=bC m k n s a;let B:=tC k n s a;let C:=(0,oC [dL es [],dV 1]);let E:=(1,oR true 8 135 os);let F:=((↑i:Int)+(1:Int));let G:=cut sc52 0;gH (mCtr [(19,dA B)] [(12,bC m k n s a),(13,bC m k n s a)]) 2 false rs52 G (hdNR es os row mm (↑i:Int))=(brT (decide ((↑i:Int)<mm)) (Ow ((0:Int)<=(↑i:Int)/\es[Int.toNat (↑i:Int)]? = some A) (Ow (FK 43 [dA B] (dA B)) (Ow (Zc 5 [A]/\List.length row+1<=1073741824) (I8 F (Jm G { tm:=[(2,dV 2),(8,dL es []),(9,dI mm),(10,dI F)],ob:=[C,E,(2,oR true 5 45 (row++[A]))] }))))) (Rt (dV 2) [C,E,(2,oR true 5 45 row)]):Tr):=by intro A B C E F G;kernel_rfl
/- closed -/
def apyQ:QT:=fun d xs ob=>match d,xs,ob with
 | .func (.func f) [] [],[.ptr 0 0],[(0,.cells [.slice es [],.vec 1]),(1,.arr true 8 e os)]=>if f=84/\e=135 then some (.ok True (.func (.func 113) [] [.ptr 2 0]) (oS es os++[(2,.cells [.ptr 0 0])])) else none
 | _,_,_=>none
theorem Zmy (es os:LD):gC (mCtr []) 2 rs71 sc71 [] [dP 0 0] [] (oS es os)=(Jm (cut sc71 0) { tm:=[(0,dP 0 0),(10,dV 1),(11,dI (↑(List.length os):Int)),(12,dI (0:Int))],ob:=(oS es os) }:Tr):=by kernel_rfl
def hdCl (es os:LD) (m i:Int):St:=⟨[(0,.ptr 0 0),(10,.vec 1),(11,.int .i64 m),(12,.int .i64 i)],oS es os⟩
theorem Zan (es os:LD) (m:Int) (i:Nat) (k n:Int) (s:LU) (a:LD) (k' n':Int) (s':LU) (a':LD) (kt nt:Int) (st:LU) (ta l:LD) (e:Int) (b:Bool):let A:=[dU k,dI n,dS s,dL a [],dU k',dI n',dS s',dL a' []];let B:=tC kt nt st ta;let C:=oS es os;let E:=((↑i:Int)+(1:Int));let F:=Rt (dB false) C;let G:=[dL l [],dI e];let H:=cut sc71 0;gH (clC [(24,D.tuple G)] [(14,tC k n s a++tC k' n' s' a')] [(23,dA B),(32,dB b)] apyQ) 2 false rs71 H (hdCl es os m (↑i:Int))=(brT (decide ((↑i:Int)<m)) (Ow ((0:Int)<=(↑i:Int)/\os[Int.toNat (↑i:Int)]? = some A) (Ow True (Ow ((0:Int)<=(0:Int)/\(0:Int)<(2:Int)) (Ow (CF 45 [dF 113 [] [dP 0 0],dA (tC k n s a)] (oP es os) fun r0 o=>r0=dA B/\o=(oP es os)) (Ow (FK 22 [dA B] (D.tuple G)) (brT (!decide (e=(0:Int))) F (Ow (CF 69 [dL l [],dF 106 [] [dP 0 0]] [(0,oC A)] fun r0 o=>r0=dB b/\o=[(0,oC A)]) (brT (!b) F (I8 E (Jm H { tm:=[(0,dP 0 0),(10,dV 1),(11,dI m),(12,dI E)],ob:=C })))))))))) (Rt (dB true) C):Tr):=by intro A B C E F G H;kernel_rfl
end Go.Proofs.YtobgkdlghljdlaaGreatDoor
/- match.state: binding,matching of lists. -/
namespace Go.Proofs.YtobgkdlghljdlaaGreatDoor
open Go.Sx
abbrev nR2 (os row:LD):Obs:=[(0,.cells [.vec 2,.vec 1]),(1,.arr true 8 135 os),(2,.arr false 5 45 row)]
theorem Zk6 (l:List Bd) (os:LD) (t:LU) (v w:Tm) (hl:l.length<=1000000) (hs:srtB l) (hw: ∀ x∈l,x.v.wf 281474976710656) (hv:v.wf 281474976710656) (hg:getB l t=some w):CF 51 [.ptr 0 0,.str t,.agg v.cells] (oS (bdL l) os) fun r ob=>r= .bool (w.eqb v)/\ob=oS (bdL l) os:=by
 have hfi:=Z3H l t hl hs
 unfold fndD at hfi
 have hgp:=Z13 (s:=t) hs
 have hlt:posB l t<l.length:=Nat.lt_of_not_le fun h=>by
  rw[List.getElem?_eq_none h,hg] at hgp; cases hgp
 have hx:=QG hlt
 rw[List.getElem?_eq_getElem hlt,hg] at hgp
 simp only at hgp
 have he:=Z6H l[posB l t].v v (hw _ (List.getElem_mem hlt)) hv
 by_cases e:l[posB l t].n=t
 ·rw[if_pos e] at hgp
  have hgp:w=l[posB l t].v:=Option.some.inj hgp
  rw[<- hgp] at he
  rw[hg] at hfi
  have hx:(bdL l)[posB l t]? = some (Bd.c ⟨l[posB l t].n,w⟩):=by rw[hx,hgp]
  generalize l[posB l t].n=nm at hx
  obtain⟨k,n,s,a⟩:=w
  obtain⟨kv,nv,sv,av⟩:=v
  refine CallL.tree Z4 fp51 Z5 (Zdg (bdL l) os t kv nv sv (Tm.cellsL av)) ?_
  rw[Z9]
  refine At.tree Z5 (Zdi (bdL l) os t kv nv sv (Tm.cellsL av) (posB l t) true) ?_
  refine⟨hfi, ?_⟩
  rw[Z9]
  refine At.tree Z5 (Zdh (bdL l) os t kv nv sv (Tm.cellsL av) (posB l t) true (Tm.eqb (.mk k n s a) (.mk kv nv sv av)) nm k n s (Tm.cellsL a)) ?_
  exact⟨⟨by omega,by rw[Int.toNat_natCast]; exact hx⟩,he,rfl,rfl⟩
 ·rw[if_neg e] at hgp; cases hgp
theorem ZhC (es os:LD) (t:LU) (kv nv:Int) (sv:LU) (av:LD) (i:Int):NB2 es os t kv nv sv av i= .owe ((-9223372036854775808:Int)<=(es.length:Int)+1/\(es.length:Int)+1<=9223372036854775807) (.owe ((0:Int)<=(es.length:Int)+1/\((es.length:Int)+1)*72<=281474976710656/\(es.length:Int)+1<=1073741824) (.jmp (frg sc51 3) ⟨[(0,.ptr 0 0),(1,.str t),(5,.ptr 2 0),(7,.int .i64 i),(9,.vec 3)],[(0,.cells [.slice es [],.vec 1]),(1,.arr true 8 135 os),(2,.cells (tC kv nv sv av)),(3,.arr false 5 45 (List.replicate (es.length+1) zB))]⟩)):=by kernel_rfl
theorem Zk5 (l:List Bd) (os:LD) (t:LU) (v:Tm) (hl:l.length<=1000000) (hs:srtB l) (hg:getB l t=none):CF 51 [.ptr 0 0,.str t,.agg v.cells] (oS (bdL l) os) fun r ob=>r= .bool true/\ob=nR2 os (bdL (Z0Z l t v)):=by
 have hfi:=Z3H l t hl hs
 unfold fndD at hfi
 rw[hg] at hfi
 have hp:=Z5a l t
 generalize hi:posB l t=i at hfi hp
 have hr:bdL (Z0Z l t v)=(bdL l).take i++Bd.c ⟨t,v⟩::(bdL l).drop i:=by
  unfold Z0Z
  rw[hi,Z9Y,Zc7]
  show _++Bd.c ⟨t,v⟩::bdL (l.drop i)=_
  rw[Zc8]
 rw[hr,<- Zgm (z:=zB) (by rw[Q6]; exact hp)]
 have hL:=Q6 l
 have hA:=Z9Z l
 have hAA:=Z7Q l
 generalize bdL l=es at hfi hL hA hAA
 obtain⟨kv,nv,sv,av⟩:=v
 refine CallL.tree Z4 fp51 Z5 (Zdg es os t kv nv sv (Tm.cellsL av)) ?_
 rw[Z9]
 refine At.tree Z5 (Zdi es os t kv nv sv (Tm.cellsL av) i false) ?_
 refine⟨hfi, ?_⟩
 rw[Z9]
 refine At.tree Z5 (Zdh es os t kv nv sv (Tm.cellsL av) i false false [] 0 0 [] []) ?_
 have h2: ∀ row:LD,row.length=es.length+1->At Tryz.prog 2 (frg sc51 4) ⟨[(0,.ptr 0 0),(1,.str t),(5,.ptr 2 0),(7,.int .i64 i),(9,.vec 3)],[(0,.cells [.slice es [],.vec 1]),(1,.arr true 8 135 os),(2,.cells (tC kv nv sv (Tm.cellsL av))),(3,.arr false 5 45 row)]⟩ (FinQ false 2 rs51 fun r ob=>r= .bool true/\ob=nR2 os (cpyL (row.set i (Bd.c ⟨t,.mk kv nv sv av⟩)) (i+1) (es.drop i))):=fun row hrow=>by
  refine At.tree Z5 (ZmD es os t kv nv sv (Tm.cellsL av) row i) ?_
  refine⟨⟨by omega,by omega⟩,by rw[Int.toNat_natCast]; omega, ?_⟩
  rw[Z9]
  have hl2:(row.set i (Bd.c ⟨t,.mk kv nv sv av⟩)).length=es.length+1:=by rw[List.length_set]; exact hrow
  show At Tryz.prog 2 (frg sc51 5) ⟨[(0,.ptr 0 0),(7,.int .i64 i),(9,.vec 2)],[(0,.cells [.slice es [],.vec 1]),(1,.arr true 8 135 os),(2,.arr false 5 45 (row.set i (Bd.c ⟨t,.mk kv nv sv av⟩)))]⟩ _
  generalize row.set i (Bd.c ⟨t,.mk kv nv sv av⟩)=row2 at hl2 ⊢
  refine At.tree Z5 (ZmC es os row2 (es.drop i) [] i) ?_
  have et:((i:Int)+1).toNat=i+1:=by omega
  rw[List.append_nil,Int.toNat_natCast,Int.toNat_natCast,List.take_length,List.drop_length,et]
  rw[List.append_nil] at hAA
  refine⟨by omega,⟨fun h=>by rw[h] at hl2; simp at hl2,by omega,by omega⟩,⟨hAA,by omega,by omega,by omega⟩,⟨rfl,rfl⟩,Z1b.2 fun q hq=>hA q (List.mem_of_mem_drop hq), ?_⟩
  rw[Z9]
  generalize cpyL row2 (i+1) (es.drop i)=row3
  refine At.tree Z5 (ZmB es os row3) ?_
  rw[Z9]
  refine At.tree Z5 (ZmA os row3) ?_
  exact⟨rfl,rfl⟩
 have h1: ∀ row:LD,row.length=es.length+1->At Tryz.prog 2 (frg sc51 3) ⟨[(0,.ptr 0 0),(1,.str t),(5,.ptr 2 0),(7,.int .i64 i),(9,.vec 3)],[(0,.cells [.slice es [],.vec 1]),(1,.arr true 8 135 os),(2,.cells (tC kv nv sv (Tm.cellsL av))),(3,.arr false 5 45 row)]⟩ (FinQ false 2 rs51 fun r ob=>r= .bool true/\ob=nR2 os (cpyL ((cpyL row 0 (es.take i)).set i (Bd.c ⟨t,.mk kv nv sv av⟩)) (i+1) (es.drop i))):=fun row hrow=>by
  refine At.tree Z5 (ZmE es os t kv nv sv (Tm.cellsL av) row (es.take i) (es.drop i) i) ?_
  rw[List.append_nil,Int.toNat_natCast]
  rw[List.append_nil] at hAA
  refine⟨⟨hAA,by omega,by omega,by omega⟩,⟨rfl,rfl⟩,Z1b.2 fun q hq=>hA q (List.mem_of_mem_take hq), ?_⟩
  rw[Z9]
  exact h2 _ (by rw[Z6K _ _ _ (Nat.zero_le _)]; exact hrow)
 refine At.tree Z5 (ZmF es os t kv nv sv (Tm.cellsL av) i) ?_
 rw[ZhC]
 refine⟨by omega,by omega, ?_⟩
 rw[Z9]
 exact h1 (List.replicate (es.length+1) zB) (List.length_replicate ..)
theorem Z7B (o:Obs):Z2B (fun _=>false) o=[]:=by
 induction o with
 | nil=>rfl
 | cons x r ih=>obtain⟨i,y⟩:=x; simp only[Z2B]; exact ih
theorem CallL.lost {d:D} {xs:List D} {ob:Obs} {r0:D} {R:Obs->Prop} (h:CallL Tryz.prog d xs ob fun r o=>r=r0/\R o):CallL Tryz.prog d xs ob fun r o=>r=r0/\o=[] :=
 (h.keep (fun _=>false)).mono fun r o ⟨o0,h1,h2,_⟩=>⟨h2,by rw[h1,Z7B]⟩
abbrev prD (os:List (Tm × Tm)):LD:=os.map fun x=>x.1.cells++x.2.cells
abbrev sO (b:List Bd) (os:List (Tm × Tm)):Obs:=oS (bdL b) (prD os)
abbrev sO2 (b:List Bd) (os:List (Tm × Tm)):Obs:=oS2 (bdL b) (prD os)
theorem re2S {d:D} {xs:List D} {ob:Obs} {r0:D} {es os:LD} (hob:lk ob 2=none) (hr:D.men 2 r0=false) (h:CallL Tryz.prog d xs ob fun r o=>r=r0/\o=oS es os):CallL Tryz.prog d xs ob fun r o=>r=r0/\o=oS2 es os:=CallL.re2 hob rfl hr h
def ExR (q:Option (List Bd × List (Tm × Tm))) (r:D) (ob:Obs):Prop:=match q with
 | some x=>r= .bool true/\ob=sO2 x.1 x.2
 | none=>r= .bool false/\ob=[]
theorem Zm1 (b:List Bd) (os:List (Tm × Tm)) (t:LU) (v:Tm) (hl:b.length<=1000000) (hs:srtB b) (hw: ∀ x∈b,x.v.wf 281474976710656) (hv:v.wf 281474976710656):CF 51 [.ptr 0 0,.str t,.agg v.cells] (sO b os) (ExR ((bnd1 b t v).map fun c=>(c,os))):=by
 unfold bnd1
 cases hg:getB b t with
 | some w =>
  have h:=Zk6 b (prD os) t v w hl hs hw hv hg
  by_cases e:w.eqb v=true
  ·rw[e] at h
   simp only[e,if_true,Option.map_some,ExR]
   exact re2S rfl rfl h
  ·rw[Bool.eq_false_iff.2 e] at h
   simp only[e,if_false,Option.map_none,ExR]
   exact CallL.lost h
 | none =>
  have h:=Zk5 b (prD os) t v hl hs hg
  simp only[Option.map_some,ExR]
  refine re2S rfl rfl (((h.frzAll.dvA 0 0).keep fun i=>decide (i<2)).mono ?_)
  rintro r o ⟨o0,h1,o1,h2,o2,h3,h4,h5⟩
  subst h5
  subst h3
  subst h2
  exact⟨h4,h1⟩
end Go.Proofs.YtobgkdlghljdlaaGreatDoor
